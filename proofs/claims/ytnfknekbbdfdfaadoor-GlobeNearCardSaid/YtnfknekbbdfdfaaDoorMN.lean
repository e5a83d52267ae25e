/- The distance of two cells, and what is near an area. Plain mathematics. -/
import Derived.Test.YtnfknekbbdfdfaaDoorML
namespace Go.Proofs.YtnfknekbbdfdfaaDoor
namespace Globe

def circ (a b : Nat) : Nat := min (max (a - b) (b - a)) (48 - max (a - b) (b - a))
def nearN (x y x' y' : Nat) : Nat := max (max (y - y') (y' - y)) (circ x x')
theorem near_le {x y x' y' n : Nat} : nearN x y x' y' ≤ n ↔ y ≤ y' + n ∧ y' ≤ y + n ∧ circ x x' ≤ n := by unfold nearN; omega
theorem circ_one {x x' : Nat} (hx : x < 48) (hx' : x' < 48) : circ x x' ≤ 1 ↔ x' = x ∨ x' = (x + 47) % 48 ∨ x' = (x + 1) % 48 := by unfold circ; omega
theorem circ_mid {x x' n : Nat} (hx : x < 48) (hx' : x' < 48) (h : circ x x' ≤ n + 1) : ∃ z, z < 48 ∧ circ x z ≤ 1 ∧ circ z x' ≤ n := by
  by_cases e : x = x'
  · subst e; exact ⟨x, hx, by unfold circ; omega, by unfold circ; omega⟩
  · by_cases c : (x' + 48 - x) % 48 ≤ 24
    · exact ⟨(x + 1) % 48, by omega, by unfold circ; omega, by unfold circ at h ⊢; omega⟩
    · exact ⟨(x + 47) % 48, by omega, by unfold circ; omega, by unfold circ at h ⊢; omega⟩
theorem circ_tri {a b c : Nat} (ha : a < 48) (hb : b < 48) (hc : c < 48) : circ a c ≤ circ a b + circ b c := by unfold circ; omega
theorem near_tri {a b c d e f : Nat} (ha : a < 48) (hb : c < 48) (hc : e < 48) : nearN a b e f ≤ nearN a b c d + nearN c d e f := by
  have := circ_tri ha hb hc
  unfold nearN; omega
theorem near_mid {x y x' y' n : Nat} (hx : x < 48) (hx' : x' < 48) (hy : y < 24) (hy' : y' < 24) (h : nearN x y x' y' ≤ n + 1) : ∃ a b, a < 48 ∧ b < 24 ∧ nearN x y a b ≤ 1 ∧ nearN a b x' y' ≤ n := by
  rw [near_le] at h
  obtain ⟨z, hz, h1, h2⟩ := circ_mid hx hx' h.2.2
  by_cases e : y < y'
  · exact ⟨z, y + 1, hz, by omega, by rw [near_le]; omega, by rw [near_le]; omega⟩
  · by_cases e2 : y' < y
    · exact ⟨z, y - 1, hz, by omega, by rw [near_le]; omega, by rw [near_le]; omega⟩
    · exact ⟨z, y, hz, by omega, by rw [near_le]; omega, by rw [near_le]; omega⟩

theorem wide_bit {R x : Nat} (h : R < 281474976710656) (hx : x < 48) : (wideN R).testBit x = true ↔ ∃ x', x' < 48 ∧ circ x x' ≤ 1 ∧ R.testBit x' = true := by
  unfold wideN
  rw [Nat.testBit_or, Nat.testBit_or, rotN_bit h (by omega) hx, rotN_bit h (by omega) hx, Bool.or_eq_true, Bool.or_eq_true, show (x + 48 - 1) % 48 = (x + 47) % 48 by omega, show (x + 48 - 47) % 48 = (x + 1) % 48 by omega]
  constructor
  · rintro ((h | h) | h)
    · exact ⟨x, hx, by unfold circ; omega, h⟩
    · exact ⟨_, by omega, (circ_one hx (by omega)).2 (.inr (.inl rfl)), h⟩
    · exact ⟨_, by omega, (circ_one hx (by omega)).2 (.inr (.inr rfl)), h⟩
  · rintro ⟨x', hx', hc, h⟩
    rcases (circ_one hx hx').1 hc with rfl | rfl | rfl
    · exact .inl (.inl h)
    · exact .inl (.inr h)
    · exact .inr h
theorem or_bit (l : List Int) (z x : Nat) : ∀ k, (orN l z k).testBit x = true ↔ ∃ i, i < k ∧ (wideN (rowN l (z + i))).testBit x = true
  | 0 => by simp [orN]
  | k + 1 => by
    rw [orN, Nat.testBit_or, Bool.or_eq_true, or_bit l z x k]
    constructor
    · rintro (⟨i, hi, h⟩ | h)
      · exact ⟨i, by omega, h⟩
      · exact ⟨k, by omega, h⟩
    · rintro ⟨i, hi, h⟩
      by_cases e : i = k
      · subst e; exact .inr h
      · exact .inl ⟨i, by omega, h⟩
theorem has_grow1 {l : List Int} (hl : validL l = true) {x y : Nat} (hx : x < 48) (hy : y < 24) :
    hasL (grow1 l) x y = true ↔ ∃ x' y', x' < 48 ∧ y' < 24 ∧ nearN x y x' y' ≤ 1 ∧ hasL l x' y' = true := by
  unfold grow1
  rw [has_rowsF _ hy, Nat.testBit_or, Bool.or_eq_true, or_bit]
  constructor
  · rintro (h | ⟨i, hi, h⟩)
    · exact ⟨x, y, hx, hy, by rw [near_le]; unfold circ; omega, h⟩
    · obtain ⟨x', hx', hc, hb⟩ := (wide_bit (rowN_lt hl _) hx).1 h
      exact ⟨x', y - 1 + i, hx', by omega, by rw [near_le]; omega, hb⟩
  · rintro ⟨x', y', hx', hy', hn, h⟩
    rw [near_le] at hn
    refine .inr ⟨y' - (y - 1), by omega, ?_⟩
    rw [show y - 1 + (y' - (y - 1)) = y' by omega]
    exact (wide_bit (rowN_lt hl _) hx).2 ⟨x', hx', hn.2.2, h⟩
theorem has_grow {l : List Int} (hl : validL l = true) {x y : Nat} (hx : x < 48) (hy : y < 24) : ∀ n,
    hasL (growL l n) x y = true ↔ ∃ x' y', x' < 48 ∧ y' < 24 ∧ nearN x y x' y' ≤ n ∧ hasL l x' y' = true
  | 0 => by
    rw [growL]
    constructor
    · exact fun h => ⟨x, y, hx, hy, by rw [near_le]; unfold circ; omega, h⟩
    · rintro ⟨x', y', hx', hy', hn, h⟩
      rw [near_le] at hn
      obtain rfl : x = x' := by have := hn.2.2; unfold circ at this; omega
      obtain rfl : y = y' := by omega
      exact h
  | n + 1 => by
    rw [growL, has_grow1 (growL_valid hl n) hx hy]
    constructor
    · rintro ⟨x1, y1, hx1, hy1, hn, h⟩
      obtain ⟨x', y', hx', hy', hn', h'⟩ := (has_grow hl hx1 hy1 n).1 h
      exact ⟨x', y', hx', hy', by have := @near_tri x y x1 y1 x' y' hx hx1 hx'; omega, h'⟩
    · rintro ⟨x', y', hx', hy', hn, h⟩
      obtain ⟨a, b, ha, hb, h1, h2⟩ := near_mid hx hx' hy hy' hn
      exact ⟨a, b, ha, hb, h1, (has_grow hl ha hb n).2 ⟨x', y', hx', hy', h2, h⟩⟩

theorem ext_iff {a b : List Int} (ha : validL a = true) (hb : validL b = true) (h : ∀ x y, x < 48 → y < 24 → (hasL a x y = true ↔ hasL b x y = true)) : a = b :=
  ext_has ha hb fun x y hx hy => by rw [Bool.eq_iff_iff]; exact h x y hx hy
theorem grow_union {a b : List Int} (ha : validL a = true) (hb : validL b = true) (n : Nat) : growL (unionL a b) n = unionL (growL a n) (growL b n) := by
  refine ext_iff (growL_valid (union_valid ha hb) n) (union_valid (growL_valid ha n) (growL_valid hb n)) fun x y hx hy => ?_
  rw [has_union hy, Bool.or_eq_true, has_grow (union_valid ha hb) hx hy, has_grow ha hx hy, has_grow hb hx hy]
  constructor
  · rintro ⟨x', y', hx', hy', hn, h⟩
    rw [has_union hy', Bool.or_eq_true] at h
    exact h.elim (fun h => .inl ⟨x', y', hx', hy', hn, h⟩) fun h => .inr ⟨x', y', hx', hy', hn, h⟩
  · rintro (⟨x', y', hx', hy', hn, h⟩ | ⟨x', y', hx', hy', hn, h⟩)
    · exact ⟨x', y', hx', hy', hn, by rw [has_union hy', h]; rfl⟩
    · exact ⟨x', y', hx', hy', hn, by rw [has_union hy', h, Bool.or_true]⟩
theorem grow_has {a : List Int} (ha : validL a = true) (n : Nat) {x y : Nat} (hx : x < 48) (hy : y < 24) (h : hasL a x y = true) : hasL (growL a n) x y = true :=
  (has_grow ha hx hy n).2 ⟨x, y, hx, hy, by rw [near_le]; unfold circ; omega, h⟩
theorem circ_shift {x x' k : Nat} (hx : x < 48) (hx' : x' < 48) (_hk : k < 48) : circ ((x + k) % 48) ((x' + k) % 48) = circ x x' := by unfold circ; omega
theorem circ_back {x x' k : Nat} (hx : x < 48) (hx' : x' < 48) (hk : k < 48) : circ ((x + 48 - k) % 48) ((x' + 48 - k) % 48) = circ x x' := by unfold circ; omega
theorem grow_shift {a : List Int} (ha : validL a = true) {k : Nat} (hk : k < 48) (n : Nat) : growL (shiftL a k) n = shiftL (growL a n) k := by
  refine ext_iff (growL_valid (shift_valid a k) n) (shift_valid _ k) fun x y hx hy => ?_
  rw [has_shift (growL_valid ha n) hk hx hy, has_grow (shift_valid a k) hx hy, has_grow ha (by omega) hy]
  constructor
  · rintro ⟨x', y', hx', hy', hn, h⟩
    rw [has_shift ha hk hx' hy'] at h
    refine ⟨_, y', by omega, hy', ?_, h⟩
    rw [near_le] at hn ⊢
    rw [circ_back hx hx' hk]; exact hn
  · rintro ⟨x', y', hx', hy', hn, h⟩
    refine ⟨(x' + k) % 48, y', by omega, hy', ?_, ?_⟩
    · rw [near_le] at hn ⊢
      refine ⟨hn.1, hn.2.1, ?_⟩
      have := hn.2.2
      rw [← circ_shift (x := (x + 48 - k) % 48) (x' := x') (k := k) (by omega) hx' hk, show ((x + 48 - k) % 48 + k) % 48 = x by omega] at this
      exact this
    · rw [has_shift ha hk (by omega) hy', show ((x' + k) % 48 + 48 - k) % 48 = x' by omega]; exact h
theorem shift_meet {a b : List Int} (ha : validL a = true) (hb : validL b = true) {k : Nat} (hk : k < 48) : shiftL (meetL a b) k = meetL (shiftL a k) (shiftL b k) := by
  refine ext_has (shift_valid _ k) (meet_valid (shift_valid a k)) fun x y hx hy => ?_
  rw [has_shift (meet_valid ha) hk hx hy, has_meet hy, has_meet hy, has_shift ha hk hx hy, has_shift hb hk hx hy]
theorem shift_union {a b : List Int} (ha : validL a = true) (hb : validL b = true) {k : Nat} (hk : k < 48) : shiftL (unionL a b) k = unionL (shiftL a k) (shiftL b k) := by
  refine ext_has (shift_valid _ k) (union_valid (shift_valid a k) (shift_valid b k)) fun x y hx hy => ?_
  rw [has_shift (union_valid ha hb) hk hx hy, has_union hy, has_union hy, has_shift ha hk hx hy, has_shift hb hk hx hy]
theorem shift_less {a b : List Int} (ha : validL a = true) (hb : validL b = true) {k : Nat} (hk : k < 48) : shiftL (lessL a b) k = lessL (shiftL a k) (shiftL b k) := by
  refine ext_has (shift_valid _ k) (less_valid (shift_valid a k)) fun x y hx hy => ?_
  rw [has_shift (less_valid ha) hk hx hy, has_less hy, has_less hy, has_shift ha hk hx hy, has_shift hb hk hx hy]
theorem shift_shift {a : List Int} (ha : validL a = true) {i k m : Nat} (hi : i < 48) (hk : k < 48) (hm : m = (i + k) % 48) : shiftL (shiftL a i) k = shiftL a m := by
  subst hm
  refine ext_has (shift_valid _ _) (shift_valid _ _) fun x y hx hy => ?_
  rw [has_shift (shift_valid a i) hk hx hy, has_shift ha hi (by omega) hy, has_shift ha (by omega) hx hy]
  congr 1
  omega

end Globe
end Go.Proofs.YtnfknekbbdfdfaaDoor
