/- The laws of the sun, in plain mathematics: moving around; nearer to noon; falling. -/
import Derived.Test.YtknlnmalaidaiaaDoorM6
namespace Go.Proofs.YtknlnmalaidaiaaDoor
namespace Sun

theorem ac_around {x k t m d : Int} (hx : 0 ≤ x) (hx' : x ≤ 47) (hk : 0 ≤ k) (hk' : k ≤ 47) (hm : 0 ≤ m) (hm' : m + 30 * k < 1440) (ht : t = 1440 * d + m) : ac x (t + 30 * k) = ac ((x + k) % 48) t := by
  have e1 : t % 1440 = m := by omega
  have e2 : (t + 30 * k) % 1440 = m + 30 * k := by omega
  unfold ac noon
  rw [e1, e2]
  have e3 : (1440 - (m + 30 * k)) * 100 / 3 = (1440 - m) * 100 / 3 - 1000 * k := by omega
  rw [e3]
  generalize hA : (1440 - m) * 100 / 3 = A
  have hA0 : 1000 * k ≤ A := by omega
  have hA1 : A ≤ 48000 := by omega
  clear hA e3 e1 e2 ht hm hm'
  have e4 : (A - 1000 * k) % 48000 = if A = 48000 ∧ k = 0 then 0 else A - 1000 * k := by split <;> omega
  have e5 : A % 48000 = if A = 48000 then 0 else A := by split <;> omega
  have e6 : (x + k) % 48 = if x + k < 48 then x + k else x + k - 48 := by split <;> omega
  rw [e4, e5, e6]
  unfold away
  split <;> split <;> split <;> omega
theorem ds_around {y t k m d : Int} (hk : 0 ≤ k) (hm : 0 ≤ m) (hm' : m + 30 * k < 1440) (ht : t = 1440 * d + m) : ds y (t + 30 * k) = ds y t := by
  have e : (t + 30 * k) / 1440 = t / 1440 := by omega
  unfold ds season; rw [e]
theorem height_around {x y k t m d : Int} (hx : 0 ≤ x) (hx' : x ≤ 47) (hk : 0 ≤ k) (hk' : k ≤ 47) (hm : 0 ≤ m) (hm' : m + 30 * k < 1440) (ht : t = 1440 * d + m) : height x y (t + 30 * k) = height ((x + k) % 48) y t := by
  unfold height; rw [ac_around hx hx' hk hk' hm hm' ht, ds_around hk hm hm' ht]

theorem next_spec (x y t : Int) (lit : Bool) : (next x y t lit = -1 ∧ ∀ i, i < nmin t → (litB x y (t + (i : Int)) == lit) = false) ∨
    ∃ i0, i0 < nmin t ∧ next x y t lit = t + (i0 : Int) ∧ (litB x y (t + (i0 : Int)) == lit) = true ∧ ∀ i, i < i0 → (litB x y (t + (i : Int)) == lit) = false := by
  have mem : ∀ {i n : Nat}, i < n → t + (i : Int) ∈ upto t n := fun {i n} h => List.mem_map.2 ⟨i, List.mem_range.2 h, rfl⟩
  by_cases h : ∀ i, i < nmin t → (litB x y (t + (i : Int)) == lit) = false
  · refine .inl ⟨next_none fun k hk => ?_, h⟩
    obtain ⟨i, hi, rfl⟩ := List.mem_map.1 hk
    exact h i (List.mem_range.1 hi)
  · right
    have h' : ∃ i, i < nmin t ∧ (litB x y (t + (i : Int)) == lit) = true := by
      apply Classical.byContradiction
      intro hn
      exact h fun i hi => by
        cases e : (litB x y (t + (i : Int)) == lit) with
        | false => rfl
        | true => exact absurd ⟨i, hi, e⟩ hn
    have key : ∀ n, n ≤ nmin t → (∃ i, i < n ∧ (litB x y (t + (i : Int)) == lit) = true) → ∃ i0, i0 < nmin t ∧ next x y t lit = t + (i0 : Int) ∧ (litB x y (t + (i0 : Int)) == lit) = true ∧ ∀ i, i < i0 → (litB x y (t + (i : Int)) == lit) = false := by
      intro n
      induction n with
      | zero => rintro _ ⟨i, hi, _⟩; omega
      | succ n ih =>
        intro hn hex
        by_cases hlow : ∃ i, i < n ∧ (litB x y (t + (i : Int)) == lit) = true
        · exact ih (by omega) hlow
        · have hall : ∀ i, i < n → (litB x y (t + (i : Int)) == lit) = false := fun i hi => by
            cases e : (litB x y (t + (i : Int)) == lit) with
            | false => rfl
            | true => exact absurd ⟨i, hi, e⟩ hlow
          obtain ⟨i, hi, he⟩ := hex
          obtain rfl : i = n := by
            rcases Nat.lt_or_ge i n with h1 | h1
            · rw [hall i h1] at he; cases he
            · omega
          refine ⟨i, hn, ?_, he, hall⟩
          refine next_some (p := upto t i) ?_ ?_ he
          · rw [← upto_succ]; exact upto_pre t hn
          · intro j hj
            obtain ⟨q, hq, rfl⟩ := List.mem_map.1 hj
            exact hall q (List.mem_range.1 hq)
    exact key _ (Nat.le_refl _) h'

theorem height_ac {x u y t : Int} : (ac u t < ac x t ∨ height u y t ≤ height x y t) ∧ (ac x t < ac u t ∨ height x y t ≤ height u y t) ∧
    (ac u t ≠ ac x t + 1000 ∨ height x y t - height u y t = 7 ∨ height x y t - height u y t = 8 ∨ height u y t = -90) := by
  unfold height; omega
theorem height_ds {x y v t : Int} : (ds v t < ds y t ∨ height x v t ≤ height x y t) ∧ (ds y t < ds v t ∨ height x y t ≤ height x v t) ∧
    (ds v t ≠ ds y t + 1000 ∨ height x y t - height x v t = 7 ∨ height x y t - height x v t = 8 ∨ height x v t = -90) := by
  unfold height; omega
theorem ds_is (y t : Int) : 1000 * y + 500 - season t ≤ ds y t ∧ season t - 1000 * y - 500 ≤ ds y t ∧ (ds y t ≤ 1000 * y + 500 - season t ∨ ds y t ≤ season t - 1000 * y - 500) := by
  unfold ds away; omega

end Sun
end Go.Proofs.YtknlnmalaidaiaaDoor
