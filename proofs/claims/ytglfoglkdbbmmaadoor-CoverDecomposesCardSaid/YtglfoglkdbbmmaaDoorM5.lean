/- The cells of an area: plain mathematics of bits. -/
import Derived.Test.YtglfoglkdbbmmaaDoorMG
import Derived.Lib.TrailingZeros
namespace Go.Proofs.YtglfoglkdbbmmaaDoor
namespace Globe

/-- The columns of a row, ascending. -/
def bitsN (R : Nat) : List Nat := (List.range 48).filter fun x => R.testBit x
theorem bitsN_zero : bitsN 0 = [] := by simp [bitsN]

theorem lowest (R : Nat) (h0 : R ≠ 0) (h : R < 2 ^ 64) : ∃ m, R = 2 ^ Lib.ctz 64 R * (2 * m + 1) ∧ R &&& (R - 1) = 2 ^ (Lib.ctz 64 R + 1) * m := by
  obtain ⟨m, hm, _⟩ := Lib.ctzFrom_spec 64 R (by omega) h
  have e : Lib.ctz 64 R = Lib.ctzFrom 64 R := by simp [Lib.ctz, h0]
  rw [e]
  generalize Lib.ctzFrom 64 R = k at hm ⊢
  refine ⟨m, hm, ?_⟩
  have hp : 0 < 2 ^ k := Nat.two_pow_pos k
  have h1 : R = 2 ^ (k + 1) * m + 2 ^ k := by rw [hm, Nat.pow_succ, Nat.mul_add, Nat.mul_one, Nat.mul_assoc]
  have h2 : R - 1 = 2 ^ (k + 1) * m + (2 ^ k - 1) := by omega
  have l1 : 2 ^ k < 2 ^ (k + 1) := by rw [Nat.pow_succ]; omega
  apply Nat.eq_of_testBit_eq
  intro j
  rw [h2, Nat.testBit_and, h1, Nat.testBit_two_pow_mul_add _ l1, Nat.testBit_two_pow_mul_add _ (by omega)]
  rw [Nat.testBit_two_pow_mul]
  by_cases hj : j < k + 1
  · simp only [hj, if_true, Nat.testBit_two_pow, Nat.testBit_two_pow_sub_one]
    rw [show decide (j ≥ k + 1) = false by simp; omega]
    by_cases e : k = j
    · subst e; simp
    · simp [e]
  · simp only [hj, if_false]
    rw [show decide (j ≥ k + 1) = true by simp; omega]
    simp

theorem testBit_ctz (R : Nat) (h0 : R ≠ 0) (h : R < 2 ^ 64) : R.testBit (Lib.ctz 64 R) = true ∧ (∀ j, j < Lib.ctz 64 R → R.testBit j = false) ∧ ∀ j, (R &&& (R - 1)).testBit j = (R.testBit j && decide (j ≠ Lib.ctz 64 R)) := by
  obtain ⟨m, hm, ha⟩ := lowest R h0 h
  generalize Lib.ctz 64 R = k at *
  have h1 : R = 2 ^ (k + 1) * m + 2 ^ k := by rw [hm, Nat.pow_succ, Nat.mul_add, Nat.mul_one, Nat.mul_assoc]
  have l1 : 2 ^ k < 2 ^ (k + 1) := by rw [Nat.pow_succ]; have := Nat.two_pow_pos k; omega
  have tb : ∀ j, R.testBit j = if j < k + 1 then decide (k = j) else m.testBit (j - (k + 1)) := by
    intro j
    rw [h1, Nat.testBit_two_pow_mul_add _ l1, Nat.testBit_two_pow]
  refine ⟨by rw [tb]; simp, fun j hj => by rw [tb, if_pos (by omega)]; simp; omega, fun j => ?_⟩
  rw [ha, tb, Nat.testBit_two_pow_mul]
  by_cases hj : j < k + 1
  · rw [if_pos hj, show decide (j ≥ k + 1) = false by simp; omega]
    by_cases e : k = j
    · subst e; simp
    · simp [e]
  · rw [if_neg hj, show decide (j ≥ k + 1) = true by simp; omega, show decide (j ≠ k) = true by simp; omega]
    simp

theorem ctz_lt (R : Nat) (h0 : R ≠ 0) (h : R < 2 ^ 48) : Lib.ctz 64 R < 48 := by
  have h64 : R < 2 ^ 64 := by omega
  obtain ⟨t, _⟩ := testBit_ctz R h0 h64
  apply Nat.lt_of_not_le
  intro hle
  have : R < 2 ^ Lib.ctz 64 R := Nat.lt_of_lt_of_le h (Nat.pow_le_pow_right (by decide) hle)
  rw [Nat.testBit_lt_two_pow this] at t
  cases t

/-- Taking the lowest column away. -/
theorem bitsN_step (R : Nat) (h0 : R ≠ 0) (h : R < 2 ^ 48) : bitsN R = Lib.ctz 64 R :: bitsN (R &&& (R - 1)) := by
  have h64 : R < 2 ^ 64 := by omega
  obtain ⟨t, tl, ta⟩ := testBit_ctz R h0 h64
  have hk := ctz_lt R h0 h
  generalize Lib.ctz 64 R = k at *
  unfold bitsN
  obtain ⟨r, hr⟩ : ∃ r, 48 = k + (1 + r) := ⟨47 - k, by omega⟩
  rw [hr, List.range_add, List.range_add, List.filter_append, List.filter_append, List.map_append, List.filter_append, List.filter_append]
  have e1 : (List.range k).filter (fun x => R.testBit x) = [] := List.filter_eq_nil_iff.2 fun j hj => by rw [tl j (List.mem_range.1 hj)]; simp
  have e2 : (List.range k).filter (fun x => (R &&& (R - 1)).testBit x) = [] := List.filter_eq_nil_iff.2 fun j hj => by rw [ta, tl j (List.mem_range.1 hj)]; simp
  have e3 : (List.map (fun x => k + x) (List.range 1)).filter (fun x => R.testBit x) = [k] := by simp [List.range_succ, t]
  have e4 : (List.map (fun x => k + x) (List.range 1)).filter (fun x => (R &&& (R - 1)).testBit x) = [] := by simp [List.range_succ, ta]
  rw [e1, e2, e3, e4]
  simp only [List.nil_append, List.singleton_append, List.cons.injEq, true_and]
  refine List.filter_congr fun j hj => ?_
  rw [ta]
  simp only [List.map_map, List.mem_map, List.mem_range, Function.comp] at hj
  obtain ⟨i, _, rfl⟩ := hj
  rw [show decide (k + (1 + i) ≠ k) = true by simp, Bool.and_true]

theorem and_pred_lt (R : Nat) (h : R < 2 ^ 48) : R &&& (R - 1) < 2 ^ 48 := Nat.and_lt_two_pow _ (by omega)
theorem and_pred_less (R : Nat) (h0 : R ≠ 0) : R &&& (R - 1) < R := by
  have : R &&& (R - 1) ≤ R - 1 := Nat.and_le_right
  omega

/-- The cells of a row, and those of the rows below y, in order. -/
def rowCells (l : List Int) (j : Nat) : List (Nat × Nat) := (bitsN (nth l j).toNat).map fun x => (x, j)
def cellsTo (l : List Int) (y : Nat) : List (Nat × Nat) := (List.range y).flatMap (rowCells l)
theorem cellsTo_succ (l : List Int) (y : Nat) : cellsTo l (y + 1) = cellsTo l y ++ rowCells l y := by simp [cellsTo, List.range_succ]
theorem cellsTo_zero (l : List Int) : cellsTo l 0 = [] := rfl
theorem bitsN_len (R : Nat) : (bitsN R).length ≤ 48 := by
  unfold bitsN
  exact Nat.le_trans (List.length_filter_le _ _) (by simp)
theorem cellsTo_len (l : List Int) : ∀ y, (cellsTo l y).length ≤ 48 * y
  | 0 => by simp [cellsTo]
  | y + 1 => by
    rw [cellsTo_succ, List.length_append]
    have := cellsTo_len l y
    have h2 : (rowCells l y).length ≤ 48 := by unfold rowCells; rw [List.length_map]; exact bitsN_len _
    omega

theorem cellsTo_pre (l : List Int) {y n : Nat} (h : y ≤ n) : cellsTo l y <+: cellsTo l n := by
  obtain ⟨r, rfl⟩ : ∃ r, n = y + r := ⟨n - y, by omega⟩
  unfold cellsTo
  rw [List.range_add, List.flatMap_append]
  exact List.prefix_append _ _
/-- In the midst of a row. -/
theorem cells_mid {l : List Int} {y x : Nat} {done rest : List (Nat × Nat)} (hy : y < 24) (h : done ++ (x, y) :: rest = rowCells l y) :
    (cellsTo l y ++ done).length < (cellsTo l 24).length ∧ cellsTo l y ++ done ++ [(x, y)] <+: cellsTo l 24 := by
  have hp := cellsTo_pre l (show y + 1 ≤ 24 by omega)
  rw [cellsTo_succ, ← h] at hp
  refine ⟨?_, ?_⟩
  · have := hp.length_le
    simp only [List.length_append, List.length_cons] at this ⊢
    omega
  · refine List.IsPrefix.trans ?_ hp
    exact ⟨rest, by simp⟩

/-- The cells of an area; how many. -/
def cellsL (l : List Int) : List (Nat × Nat) := if validL l then cellsTo l 24 else []
def countL (l : List Int) : Nat := (cellsL l).length
theorem countL_le (l : List Int) : countL l ≤ 1152 := by
  unfold countL cellsL
  split
  · exact cellsTo_len l 24
  · simp

end Globe
end Go.Proofs.YtglfoglkdbbmmaaDoor
