/- Areas as lists of rows: has, put. Plain mathematics of bits. -/
import Derived.Test.YtglfoglkdbbmmaaDoorM5
namespace Go.Proofs.YtglfoglkdbbmmaaDoor
namespace Globe

/-- Whether an area has a cell. -/
def hasL (l : List Int) (x y : Nat) : Bool := (nth l y).toNat.testBit x
/-- The area with a cell. -/
def putL (l : List Int) (x y : Nat) : List Int := l.set y (((nth l y).toNat ||| 2 ^ x : Nat) : Int)
def zeroL : List Int := List.replicate 24 0

theorem nth_set {l : List Int} {y : Nat} {v : Int} (j : Nat) (h : y < l.length) : nth (l.set y v) j = if y = j then v else nth l j := by
  unfold nth
  rw [List.getElem?_set]
  by_cases e : y = j
  · subst e; simp [h]
  · simp [e]
theorem len_put (l : List Int) (x y : Nat) : (putL l x y).length = l.length := by simp [putL]
theorem has_put {l : List Int} {x y : Nat} (h : y < l.length) (x' y' : Nat) : hasL (putL l x y) x' y' = (hasL l x' y' || (decide (x = x') && decide (y = y'))) := by
  unfold hasL putL
  rw [nth_set _ h]
  by_cases e : y = y'
  · subst e; rw [if_pos rfl, Int.toNat_natCast, Nat.testBit_or, Nat.testBit_two_pow]; simp
  · rw [if_neg e]; simp [e]
theorem nth_zero (j : Nat) : nth zeroL j = 0 := by
  unfold nth zeroL
  rw [List.getElem?_replicate]; split <;> rfl
theorem has_zero (x y : Nat) : hasL zeroL x y = false := by unfold hasL; rw [nth_zero]; simp
theorem valid_zero : validL zeroL = true := by decide +kernel
theorem len_of_valid {l : List Int} (h : validL l = true) : l.length = 24 := (validL_t.1 h).1
theorem row_of_valid {l : List Int} (h : validL l = true) (y : Nat) : 0 ≤ nth l y ∧ nth l y ≤ 281474976710655 := by
  by_cases hy : y < l.length
  · exact (validL_t.1 h).2 _ (nth_mem hy)
  · rw [nth_ge (by omega)]; omega
theorem valid_set {l : List Int} (h : validL l = true) {y : Nat} {v : Int} (h0 : 0 ≤ v) (h1 : v ≤ 281474976710655) : validL (l.set y v) = true := by
  rw [validL_t] at h ⊢
  refine ⟨by simp [h.1], fun r hr => ?_⟩
  rcases List.mem_or_eq_of_mem_set hr with hr | rfl
  · exact h.2 r hr
  · exact ⟨h0, h1⟩
theorem or_lt {R x : Nat} (h : R < 281474976710656) (hx : x < 48) : R ||| 2 ^ x < 281474976710656 :=
  Nat.or_lt_two_pow (n := 48) h (Nat.pow_lt_pow_right (by decide) hx)
theorem valid_put {l : List Int} (h : validL l = true) {x y : Nat} (hx : x < 48) : validL (putL l x y) = true := by
  obtain ⟨h0, h1⟩ := row_of_valid h y
  have := @or_lt (nth l y).toNat x (by omega) hx
  exact valid_set h (by omega) (by omega)
/-- Two valid areas with the same cells are the same. -/
theorem ext_has {a b : List Int} (ha : validL a = true) (hb : validL b = true) (h : ∀ x y, x < 48 → y < 24 → hasL a x y = hasL b x y) : a = b := by
  refine ext_nth (by rw [len_of_valid ha, len_of_valid hb]) fun y hy => ?_
  rw [len_of_valid ha] at hy
  obtain ⟨a0, a1⟩ := row_of_valid ha y
  obtain ⟨b0, b1⟩ := row_of_valid hb y
  have : (nth a y).toNat = (nth b y).toNat := Nat.eq_of_testBit_eq fun x => by
    by_cases hx : x < 48
    · exact h x y hx hy
    · rw [Nat.testBit_lt_two_pow, Nat.testBit_lt_two_pow]
      · exact Nat.lt_of_lt_of_le (show (nth b y).toNat < 2 ^ 48 by omega) (Nat.pow_le_pow_right (by decide) (by omega))
      · exact Nat.lt_of_lt_of_le (show (nth a y).toNat < 2 ^ 48 by omega) (Nat.pow_le_pow_right (by decide) (by omega))
  omega
/-- A valid area without cells is empty. -/
theorem has_hi {l : List Int} (h : validL l = true) {x y : Nat} (hx : 48 ≤ x) : hasL l x y = false := by
  obtain ⟨a0, a1⟩ := row_of_valid h y
  exact Nat.testBit_lt_two_pow (Nat.lt_of_lt_of_le (show (nth l y).toNat < 2 ^ 48 by omega) (Nat.pow_le_pow_right (by decide) hx))
theorem mem_cells {l : List Int} {n : Nat} {p : Nat × Nat} : p ∈ cellsTo l n ↔ p.2 < n ∧ p.1 < 48 ∧ hasL l p.1 p.2 = true := by
  obtain ⟨x, y⟩ := p
  simp only [cellsTo, rowCells, List.mem_flatMap, List.mem_range, List.mem_map, bitsN, List.mem_filter, hasL, Prod.mk.injEq]
  constructor
  · rintro ⟨y', hy, x', ⟨hx, ht⟩, rfl, rfl⟩; exact ⟨hy, hx, ht⟩
  · rintro ⟨hy, hx, ht⟩; exact ⟨y, hy, x, ⟨hx, ht⟩, rfl, rfl⟩

end Globe
end Go.Proofs.YtglfoglkdbbmmaaDoor
