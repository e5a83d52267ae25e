/- Union, meet, difference, shifting and growing of areas as lists of rows. Plain mathematics of bits. -/
import Derived.Test.YtglfoglkdbbmmaaDoorMA
namespace Go.Proofs.YtglfoglkdbbmmaaDoor
namespace Globe

/-- A list of 24 rows out of a function on the row's number. -/
def rowsF (f : Nat → Nat) : List Int := (List.range 24).map fun y => ((f y : Nat) : Int)
theorem rowsF_len (f : Nat → Nat) : (rowsF f).length = 24 := by simp [rowsF]
theorem nth_rowsF (f : Nat → Nat) {y : Nat} (h : y < 24) : nth (rowsF f) y = ((f y : Nat) : Int) := by
  rw [nth_lt (by rw [rowsF_len]; exact h)]; simp [rowsF]
theorem rowsF_valid {f : Nat → Nat} (h : ∀ y, y < 24 → f y < 281474976710656) : validL (rowsF f) = true := by
  rw [validL_t]
  refine ⟨rowsF_len f, fun r hr => ?_⟩
  simp only [rowsF, List.mem_map, List.mem_range] at hr
  obtain ⟨y, hy, rfl⟩ := hr
  have := h y hy
  omega
theorem has_rowsF (f : Nat → Nat) {x y : Nat} (h : y < 24) : hasL (rowsF f) x y = (f y).testBit x := by
  unfold hasL; rw [nth_rowsF f h]; simp
theorem rowsF_congr {f g : Nat → Nat} (h : ∀ y, y < 24 → f y = g y) : rowsF f = rowsF g := by
  unfold rowsF
  exact List.map_congr_left fun y hy => by rw [h y (List.mem_range.1 hy)]

/-- The first y rows of a list, and zeros. -/
def partL (L : List Int) (y : Nat) : List Int := L.take y ++ List.replicate (24 - y) 0
theorem partL_zero (L : List Int) : partL L 0 = zeroL := by simp [partL, zeroL]
theorem partL_all {L : List Int} (h : L.length = 24) : partL L 24 = L := by simp [partL]; rw [← h, List.take_length]
theorem partL_len {L : List Int} (h : L.length = 24) {y : Nat} (hy : y ≤ 24) : (partL L y).length = 24 := by
  unfold partL; rw [List.length_append, List.length_take, List.length_replicate]; omega
theorem nth_partL {L : List Int} (h : L.length = 24) {y j : Nat} (hy : y ≤ 24) (_hj : j < 24) : nth (partL L y) j = if j < y then nth L j else 0 := by
  unfold nth partL
  rw [List.getElem?_append, List.length_take, Nat.min_eq_left (by omega)]
  by_cases e : j < y
  · rw [if_pos e, if_pos e, List.getElem?_take_of_lt e]
  · rw [if_neg e, if_neg e, List.getElem?_replicate]; split <;> rfl
theorem partL_succ {L : List Int} (h : L.length = 24) {y : Nat} (hy : y < 24) : (partL L y).set y (nth L y) = partL L (y + 1) := by
  refine ext_nth (by rw [List.length_set, partL_len h (by omega), partL_len h (by omega)]) fun j hj => ?_
  rw [List.length_set, partL_len h (by omega)] at hj
  rw [nth_set _ (by rw [partL_len h (by omega)]; exact hy), nth_partL h (by omega) hj, nth_partL h (by omega) hj]
  by_cases e : y = j
  · subst e; rw [if_pos rfl, if_pos (by omega)]
  · rw [if_neg e]
    by_cases e2 : j < y
    · rw [if_pos e2, if_pos (by omega)]
    · rw [if_neg e2, if_neg (by omega)]

def rowN (l : List Int) (y : Nat) : Nat := (nth l y).toNat
theorem rowN_lt {l : List Int} (h : validL l = true) (y : Nat) : rowN l y < 281474976710656 := by
  have := row_of_valid h y; unfold rowN; omega
theorem rowN_cast {l : List Int} (h : validL l = true) (y : Nat) : nth l y = (rowN l y : Int) := by
  have := row_of_valid h y; unfold rowN; omega
theorem rowN_bit (l : List Int) (x y : Nat) : (rowN l y).testBit x = hasL l x y := rfl
theorem rowN_rowsF (f : Nat → Nat) {y : Nat} (h : y < 24) : rowN (rowsF f) y = f y := by
  unfold rowN; rw [nth_rowsF f h]; simp
theorem has_out {l : List Int} (h : l.length = 24) {x y : Nat} (hy : 24 ≤ y) : hasL l x y = false := by
  unfold hasL; rw [nth_ge (by omega)]; simp

/-! Two areas, row by row. -/
def unionL (a b : List Int) : List Int := rowsF fun y => rowN a y ||| rowN b y
def meetL (a b : List Int) : List Int := rowsF fun y => rowN a y &&& rowN b y
def lessN (p q : Nat) : Nat := p ^^^ (p &&& q)
theorem lessN_bit (p q x : Nat) : (lessN p q).testBit x = (p.testBit x && !q.testBit x) := by
  unfold lessN
  rw [Nat.testBit_xor, Nat.testBit_and]
  cases p.testBit x <;> cases q.testBit x <;> rfl
theorem lessN_lt {p q : Nat} (h : p < 281474976710656) : lessN p q < 281474976710656 :=
  Nat.xor_lt_two_pow (n := 48) h (Nat.lt_of_le_of_lt Nat.and_le_left h)
def lessL (a b : List Int) : List Int := rowsF fun y => lessN (rowN a y) (rowN b y)
theorem union_valid {a b : List Int} (ha : validL a = true) (hb : validL b = true) : validL (unionL a b) = true :=
  rowsF_valid fun y _ => Nat.or_lt_two_pow (n := 48) (rowN_lt ha y) (rowN_lt hb y)
theorem meet_valid {a b : List Int} (ha : validL a = true) : validL (meetL a b) = true :=
  rowsF_valid fun y _ => Nat.lt_of_le_of_lt Nat.and_le_left (rowN_lt ha y)
theorem less_valid {a b : List Int} (ha : validL a = true) : validL (lessL a b) = true := rowsF_valid fun y _ => lessN_lt (rowN_lt ha y)
theorem has_union {a b : List Int} {x y : Nat} (h : y < 24) : hasL (unionL a b) x y = (hasL a x y || hasL b x y) := by
  unfold unionL; rw [has_rowsF _ h, Nat.testBit_or, rowN_bit, rowN_bit]
theorem has_meet {a b : List Int} {x y : Nat} (h : y < 24) : hasL (meetL a b) x y = (hasL a x y && hasL b x y) := by
  unfold meetL; rw [has_rowsF _ h, Nat.testBit_and, rowN_bit, rowN_bit]
theorem has_less {a b : List Int} {x y : Nat} (h : y < 24) : hasL (lessL a b) x y = (hasL a x y && !hasL b x y) := by
  unfold lessL; rw [has_rowsF _ h, lessN_bit, rowN_bit, rowN_bit]

/-! Turning. -/
def rotN (R k : Nat) : Nat := (R <<< k ||| R >>> (48 - k)) % 281474976710656
theorem rotN_lt (R k : Nat) : rotN R k < 281474976710656 := Nat.mod_lt _ (by decide)
theorem rotN_bit {R k x : Nat} (h : R < 281474976710656) (hk : k < 48) (hx : x < 48) : (rotN R k).testBit x = R.testBit ((x + 48 - k) % 48) := by
  unfold rotN
  rw [show (281474976710656 : Nat) = 2 ^ 48 from rfl, Nat.testBit_mod_two_pow, Nat.testBit_or, Nat.testBit_shiftLeft, Nat.testBit_shiftRight]
  rw [decide_eq_true hx, Bool.true_and]
  by_cases e : k ≤ x
  · rw [decide_eq_true (show x ≥ k from e), Bool.true_and, show (x + 48 - k) % 48 = x - k by omega]
    rw [Nat.testBit_lt_two_pow (x := R) (i := 48 - k + x) (Nat.lt_of_lt_of_le (show R < 2 ^ 48 from h) (Nat.pow_le_pow_right (by decide) (by omega))), Bool.or_false]
  · rw [decide_eq_false (show ¬ x ≥ k from e), Bool.false_and, Bool.false_or, show (x + 48 - k) % 48 = 48 - k + x by omega]
theorem rotN_zero {R : Nat} (h : R < 281474976710656) : rotN R 0 = R := by
  refine Nat.eq_of_testBit_eq fun x => ?_
  by_cases hx : x < 48
  · rw [rotN_bit h (by omega) hx, show (x + 48 - 0) % 48 = x by omega]
  · rw [Nat.testBit_lt_two_pow (Nat.lt_of_lt_of_le (show rotN R 0 < 2 ^ 48 from rotN_lt _ _) (Nat.pow_le_pow_right (by decide) (by omega))),
      Nat.testBit_lt_two_pow (Nat.lt_of_lt_of_le (show R < 2 ^ 48 from h) (Nat.pow_le_pow_right (by decide) (by omega)))]
def shiftL (l : List Int) (k : Nat) : List Int := rowsF fun y => rotN (rowN l y) k
theorem shift_valid (l : List Int) (k : Nat) : validL (shiftL l k) = true := rowsF_valid fun _ _ => rotN_lt _ _
theorem has_shift {l : List Int} (hl : validL l = true) {k x y : Nat} (hk : k < 48) (hx : x < 48) (hy : y < 24) : hasL (shiftL l k) x y = hasL l ((x + 48 - k) % 48) y := by
  unfold shiftL; rw [has_rowsF _ hy, rotN_bit (rowN_lt hl y) hk hx, rowN_bit]

/-! Growing by one cell. -/
def wideN (R : Nat) : Nat := R ||| rotN R 1 ||| rotN R 47
theorem wideN_lt {R : Nat} (h : R < 281474976710656) : wideN R < 281474976710656 :=
  Nat.or_lt_two_pow (n := 48) (Nat.or_lt_two_pow (n := 48) h (rotN_lt _ _)) (rotN_lt _ _)
/-- The rows from z on, k of them, one over the other. -/
def orN (l : List Int) (z : Nat) : Nat → Nat
  | 0 => 0
  | k + 1 => orN l z k ||| wideN (rowN l (z + k))
theorem orN_lt {l : List Int} (h : validL l = true) (z : Nat) : ∀ k, orN l z k < 281474976710656
  | 0 => by rw [orN]; omega
  | k + 1 => Nat.or_lt_two_pow (n := 48) (orN_lt h z k) (wideN_lt (rowN_lt h _))
def grow1 (l : List Int) : List Int := rowsF fun y => rowN l y ||| orN l (y - 1) (min (y + 1) 23 + 1 - (y - 1))
theorem grow1_valid {l : List Int} (h : validL l = true) : validL (grow1 l) = true :=
  rowsF_valid fun y _ => Nat.or_lt_two_pow (n := 48) (rowN_lt h y) (orN_lt h _ _)
def growL (l : List Int) : Nat → List Int
  | 0 => l
  | n + 1 => grow1 (growL l n)
theorem growL_valid {l : List Int} (h : validL l = true) : ∀ n, validL (growL l n) = true
  | 0 => h
  | n + 1 => grow1_valid (growL_valid h n)
theorem growL_add (l : List Int) (i : Nat) : ∀ k, growL (growL l i) k = growL l (i + k)
  | 0 => rfl
  | k + 1 => by rw [growL, growL_add l i k]; rfl

/-! Boxes. -/
def boxL (cx cy wide high : Nat) : List Int := rowsF fun y => if cy ≤ y ∧ y < cy + high then rotN (2 ^ wide - 1) cx else 0
theorem box_valid (cx cy wide high : Nat) : validL (boxL cx cy wide high) = true := rowsF_valid fun y _ => by
  split
  · exact rotN_lt _ _
  · omega
theorem has_box {cx cy wide high x y : Nat} (hc : cx < 48) (hw : wide ≤ 48) (hx : x < 48) (hy : y < 24) :
    hasL (boxL cx cy wide high) x y = (decide (cy ≤ y ∧ y < cy + high) && decide ((x + 48 - cx) % 48 < wide)) := by
  unfold boxL
  rw [has_rowsF _ hy]
  have hp : 2 ^ wide - 1 < 281474976710656 := by
    have : 2 ^ wide ≤ 2 ^ 48 := Nat.pow_le_pow_right (by decide) hw
    have := Nat.two_pow_pos wide
    omega
  split
  · rename_i h; rw [rotN_bit hp hc hx, Nat.testBit_two_pow_sub_one, decide_eq_true h, Bool.true_and]
  · rename_i h; rw [decide_eq_false h, Bool.false_and]; simp

end Globe
end Go.Proofs.YtglfoglkdbbmmaaDoor
