/- The statement SwathSuns: for every input that the row lists, the law returns true, and every argument reads as it read before. -/
import Derived.Test.YtdjjkhefdalokaaV7SwathSuns
import Derived.Test.YtdjjkhefdalokaaRows
import Derived.ProofKit
import Derived.OpenShut
import Derived.ChangeOld
import Derived.Deep.Slices
import Derived.SizedLaws
import Derived.Handed
/- What exposures show: longer ones, other looks, less slack, all delays. -/
namespace Go.Proofs.Ytdjjkhefdalokaa
namespace Swath
open Globe
theorem has_show {o : Orb} (h : Orb.ok o = true) (lk u : Int) {x y : Nat} : ∀ n, (hasL (showL o lk u n) x y = true ↔ ∃ i : Nat, i < n ∧ x = sx o lk (u + i) ∧ y = Orb.cy o (u + i))
  | 0 => by
    rw [show showL o lk u 0 = zeroL from rfl, has_zero]
    simp
  | n + 1 => by
    rw [show showL o lk u (n + 1) = putL (showL o lk u n) (sx o lk (u + n)) (Orb.cy o (u + n)) from rfl, has_put (by rw [len_of_valid (show_valid h lk u n)]; exact Orb.cy_lt h _)]
    rw [Bool.or_eq_true, has_show h lk u n, Bool.and_eq_true, decide_eq_true_eq, decide_eq_true_eq]
    constructor
    · rintro (⟨i, hi, hx, hy⟩ | ⟨hx, hy⟩)
      · exact ⟨i, by omega, hx, hy⟩
      · exact ⟨n, by omega, hx.symm, hy.symm⟩
    · rintro ⟨i, hi, hx, hy⟩
      rcases Nat.lt_or_ge i n with q | q
      · exact .inl ⟨i, q, hx, hy⟩
      · obtain rfl : i = n := by omega
        exact .inr ⟨hx.symm, hy.symm⟩
theorem has_foldU {A : Nat → List Int} {x y : Nat} (hy : y < 24) : ∀ k, (hasL (foldU A k) x y = true ↔ ∃ j, j < k ∧ hasL (A j) x y = true)
  | 0 => by rw [show foldU A 0 = zeroL from rfl, has_zero]; simp
  | 1 => by
    rw [show foldU A 1 = A 0 from rfl]
    refine ⟨fun h => ⟨0, by omega, h⟩, fun ⟨j, hj, h⟩ => ?_⟩
    obtain rfl : j = 0 := by omega
    exact h
  | k + 2 => by
    rw [show foldU A (k + 2) = unionL (foldU A (k + 1)) (A (k + 1)) from rfl, has_union hy, Bool.or_eq_true, has_foldU hy (k + 1)]
    constructor
    · rintro (⟨j, hj, h⟩ | h)
      · exact ⟨j, by omega, h⟩
      · exact ⟨k + 1, by omega, h⟩
    · rintro ⟨j, hj, h⟩
      rcases Nat.lt_or_ge j (k + 1) with q | q
      · exact .inl ⟨j, q, h⟩
      · obtain rfl : j = k + 1 := by omega
        exact .inr h
theorem has_foldM {A : Nat → List Int} {x y : Nat} (hy : y < 24) : ∀ k, (hasL (foldM A (k + 1)) x y = true ↔ ∀ j, j < k + 1 → hasL (A j) x y = true)
  | 0 => by
    rw [show foldM A (0 + 1) = A 0 from rfl]
    refine ⟨fun h j hj => ?_, fun h => h 0 (by omega)⟩
    obtain rfl : j = 0 := by omega
    exact h
  | k + 1 => by
    rw [show foldM A (k + 1 + 1) = meetL (foldM A (k + 1)) (A (k + 1)) from rfl, has_meet hy, Bool.and_eq_true, has_foldM hy k]
    constructor
    · rintro ⟨h1, h2⟩ j hj
      rcases Nat.lt_or_ge j (k + 1) with q | q
      · exact h1 j q
      · obtain rfl : j = k + 1 := by omega
        exact h2
    · intro h
      exact ⟨fun j hj => h j (by omega), h (k + 1) (by omega)⟩
theorem lates_pos {o : Orb} (h : Orb.ok o = true) : 0 < lates o := by have := Orb.ok_t.1 h; unfold lates; omega
theorem has_can {o : Orb} {s : Int × Int} {lk : Int} {x y : Nat} (hy : y < 24) : hasL (canL o s lk) x y = true ↔ ∃ j, j < lates o ∧ hasL (areaJ o s lk j) x y = true := has_foldU hy _
theorem has_sure {o : Orb} (h : Orb.ok o = true) {s : Int × Int} {lk : Int} {x y : Nat} (hy : y < 24) : hasL (sureL o s lk) x y = true ↔ ∀ j, j < lates o → hasL (areaJ o s lk j) x y = true := by
  have := lates_pos h
  unfold sureL
  obtain ⟨k, hk⟩ : ∃ k, lates o = k + 1 := ⟨lates o - 1, by omega⟩
  rw [hk]; exact has_foldM hy k
/-- Two exposures, one after the other. -/
theorem has_parts {o : Orb} (h : Orb.ok o = true) {f k t lk : Int} (hf : f ≤ k) (hk : k ≤ t) {x y : Nat} (j : Nat) : hasL (areaJ o (f, t) lk j) x y = true ↔ hasL (areaJ o (f, k) lk j) x y = true ∨ hasL (areaJ o (k, t) lk j) x y = true := by
  unfold areaJ
  simp only []
  rw [has_show h, has_show h, has_show h]
  constructor
  · rintro ⟨i, hi, hx, hy⟩
    rcases Nat.lt_or_ge i (k - f).toNat with q | q
    · exact .inl ⟨i, q, hx, hy⟩
    · refine .inr ⟨i - (k - f).toNat, by omega, ?_, ?_⟩
      · rw [hx]; congr 1; omega
      · rw [hy]; congr 1; omega
  · rintro (⟨i, hi, hx, hy⟩ | ⟨i, hi, hx, hy⟩)
    · exact ⟨i, by omega, hx, hy⟩
    · refine ⟨i + (k - f).toNat, by omega, ?_, ?_⟩
      · rw [hx]; congr 1; omega
      · rw [hy]; congr 1; omega
theorem longer_can {o : Orb} (h : Orb.ok o = true) {f k t lk : Int} (hf : f ≤ k) (hk : k ≤ t) : unionL (canL o (f, k) lk) (canL o (k, t) lk) = canL o (f, t) lk :=
  ext_iff (union_valid (can_valid h _ _) (can_valid h _ _)) (can_valid h _ _) fun x y _ hy => by
    rw [has_union hy, Bool.or_eq_true, has_can hy, has_can hy, has_can hy]
    constructor
    · rintro (⟨j, hj, h1⟩ | ⟨j, hj, h1⟩)
      · exact ⟨j, hj, (has_parts h hf hk j).2 (.inl h1)⟩
      · exact ⟨j, hj, (has_parts h hf hk j).2 (.inr h1)⟩
    · rintro ⟨j, hj, h1⟩
      rcases (has_parts h hf hk j).1 h1 with q | q
      · exact .inl ⟨j, hj, q⟩
      · exact .inr ⟨j, hj, q⟩
theorem longer_a {o : Orb} (h : Orb.ok o = true) {f k t lk : Int} (hf : f ≤ k) (hk : k ≤ t) : containsB (sureL o (f, t) lk) (sureL o (f, k) lk) = true :=
  (contains_iff (sure_valid h _ _) (sure_valid h _ _)).2 fun _ _ _ hy h1 => (has_sure h hy).2 fun j hj => (has_parts h hf hk j).2 (.inl ((has_sure h hy).1 h1 j hj))
theorem longer_b {o : Orb} (h : Orb.ok o = true) {f k t lk : Int} (hf : f ≤ k) (hk : k ≤ t) : containsB (sureL o (f, t) lk) (sureL o (k, t) lk) = true :=
  (contains_iff (sure_valid h _ _) (sure_valid h _ _)).2 fun _ _ _ hy h1 => (has_sure h hy).2 fun j hj => (has_parts h hf hk j).2 (.inr ((has_sure h hy).1 h1 j hj))
/-- One column farther to the east. -/
theorem sx_next (o : Orb) (lk u : Int) : sx o (lk + 1) u = (sx o lk u + 1) % 48 := by unfold sx; omega
theorem has_east {o : Orb} (h : Orb.ok o = true) {s : Int × Int} {lk : Int} (j : Nat) {x y : Nat} (hx : x < 48) : hasL (areaJ o s (lk + 1) j) x y = true ↔ hasL (areaJ o s lk j) ((x + 48 - 1) % 48) y = true := by
  unfold areaJ
  rw [has_show h, has_show h]
  constructor
  · rintro ⟨i, hi, h1, h2⟩
    rw [sx_next] at h1
    have := sx_lt o lk (s.1 - (-o.sl + ((j : Nat) : Int)) + ((i : Nat) : Int))
    exact ⟨i, hi, by omega, h2⟩
  · rintro ⟨i, hi, h1, h2⟩
    have := sx_lt o lk (s.1 - (-o.sl + ((j : Nat) : Int)) + ((i : Nat) : Int))
    exact ⟨i, hi, by rw [sx_next]; omega, h2⟩
theorem looks_can {o : Orb} (h : Orb.ok o = true) (s : Int × Int) (lk : Int) : canL o s (lk + 1) = shiftL (canL o s lk) 1 :=
  ext_iff (can_valid h _ _) (shift_valid _ _) fun x y hx hy => by
    rw [has_shift (can_valid h _ _) (by omega) hx hy, has_can hy, has_can hy]
    exact ⟨fun ⟨j, hj, h1⟩ => ⟨j, hj, (has_east h j hx).1 h1⟩, fun ⟨j, hj, h1⟩ => ⟨j, hj, (has_east h j hx).2 h1⟩⟩
theorem looks_sure {o : Orb} (h : Orb.ok o = true) (s : Int × Int) (lk : Int) : sureL o s (lk + 1) = shiftL (sureL o s lk) 1 :=
  ext_iff (sure_valid h _ _) (shift_valid _ _) fun x y hx hy => by
    rw [has_shift (sure_valid h _ _) (by omega) hx hy, has_sure h hy, has_sure h hy]
    exact ⟨fun h1 j hj => (has_east h j hx).1 (h1 j hj), fun h1 j hj => (has_east h j hx).2 (h1 j hj)⟩
/-- Less slack. -/
def slack (o : Orb) (m : Int) : Orb := ⟨o.p, o.f, o.lo, o.hi, o.nd, o.tn, m⟩
theorem slack_ok {o : Orb} (h : Orb.ok o = true) {m : Int} (h0 : 0 ≤ m) (h1 : m ≤ o.sl) : Orb.ok (slack o m) = true := by
  have := Orb.ok_t.1 h
  refine Orb.ok_t.2 ?_
  unfold slack
  simp only []
  exact ⟨this.1, this.2.1, this.2.2.1, this.2.2.2.1, this.2.2.2.2.1, this.2.2.2.2.2.1, this.2.2.2.2.2.2.1, by omega, by omega⟩
theorem slack_area (o : Orb) (s : Int × Int) (lk m : Int) (h1 : m ≤ o.sl) (j : Nat) : areaJ (slack o m) s lk j = areaJ o s lk (j + (o.sl - m).toNat) := by
  unfold areaJ
  have hs : ∀ u n, showL (slack o m) lk u n = showL o lk u n := fun u n => by
    induction n with
    | zero => rfl
    | succ n ih =>
      show putL (showL (slack o m) lk u n) _ _ = putL (showL o lk u n) _ _
      rw [ih]; rfl
  rw [hs]
  congr 1
  show s.1 - (-m + ((j : Nat) : Int)) = _
  omega
theorem slack_lates (o : Orb) {m : Int} (h0 : 0 ≤ m) (h1 : m ≤ o.sl) {j : Nat} (hj : j < lates (slack o m)) : j + (o.sl - m).toNat < lates o := by
  unfold lates at *
  unfold slack at hj
  simp only [] at hj
  omega
theorem slack_sure {o : Orb} (h : Orb.ok o = true) (s : Int × Int) (lk : Int) {m : Int} (h0 : 0 ≤ m) (h1 : m ≤ o.sl) : containsB (sureL (slack o m) s lk) (sureL o s lk) = true :=
  (contains_iff (sure_valid (slack_ok h h0 h1) _ _) (sure_valid h _ _)).2 fun _ _ _ hy h2 => (has_sure (slack_ok h h0 h1) hy).2 fun j hj => by
    rw [slack_area o s lk m h1]
    exact (has_sure h hy).1 h2 _ (slack_lates o h0 h1 hj)
theorem slack_can {o : Orb} (h : Orb.ok o = true) (s : Int × Int) (lk : Int) {m : Int} (h0 : 0 ≤ m) (h1 : m ≤ o.sl) : containsB (canL o s lk) (canL (slack o m) s lk) = true :=
  (contains_iff (can_valid h _ _) (can_valid (slack_ok h h0 h1) _ _)).2 fun _ _ _ hy h2 => (has_can hy).2 <| by
    obtain ⟨j, hj, h3⟩ := (has_can hy).1 h2
    rw [slack_area o s lk m h1] at h3
    exact ⟨_, slack_lates o h0 h1 hj, h3⟩
theorem slack_none (o : Orb) (s : Int × Int) (lk : Int) (h : o.sl = 0) : sureL o s lk = canL o s lk := by
  unfold sureL canL
  rw [show lates o = 1 by unfold lates; rw [h]; rfl]
  rfl
/-- All delays. -/
theorem sure_in {o : Orb} (h : Orb.ok o = true) (s : Int × Int) (lk : Int) {j : Nat} (hj : j < lates o) : containsB (areaJ o s lk j) (sureL o s lk) = true :=
  (contains_iff (areaJ_valid h s lk j) (sure_valid h _ _)).2 fun _ _ _ hy h2 => (has_sure h hy).1 h2 j hj
theorem can_has {o : Orb} (h : Orb.ok o = true) (s : Int × Int) (lk : Int) {j : Nat} (hj : j < lates o) : containsB (canL o s lk) (areaJ o s lk j) = true :=
  (contains_iff (can_valid h _ _) (areaJ_valid h s lk j)).2 fun _ _ _ hy h2 => (has_can hy).2 ⟨j, hj, h2⟩
theorem can_sure {o : Orb} (h : Orb.ok o = true) (s : Int × Int) (lk : Int) : containsB (canL o s lk) (sureL o s lk) = true :=
  (contains_iff (can_valid h _ _) (sure_valid h _ _)).2 fun _ _ _ hy h2 => (has_can hy).2 ⟨0, lates_pos h, (has_sure h hy).1 h2 0 (lates_pos h)⟩
theorem union_next {A : Nat → List Int} (hA : ∀ i, validL (A i) = true) : ∀ i, unionL (foldU A i) (A i) = foldU A (i + 1)
  | 0 => ext_has (union_valid (foldU_valid hA 0) (hA 0)) (hA 0) fun x y _ hy => by
    rw [has_union hy, show foldU A 0 = zeroL from rfl, has_zero, Bool.false_or, show foldU A (0 + 1) = A 0 from rfl]
  | i + 1 => rfl
/-- The heights: bounds that are reached. -/
theorem mm_bd (o : Orb) (s : Int × Int) (lk d : Int) : ∀ n i, i < n → (mm o s lk d n).1 ≤ hgt o s lk d i ∧ hgt o s lk d i ≤ (mm o s lk d n).2
  | n + 1, i, hi => by
    rw [show mm o s lk d (n + 1) = (min (mm o s lk d n).1 (hgt o s lk d n), max (mm o s lk d n).2 (hgt o s lk d n)) from rfl]
    simp only []
    rcases Nat.lt_or_ge i n with q | q
    · have := mm_bd o s lk d n i q; omega
    · obtain rfl : i = n := by omega
      omega
theorem mm_hit (o : Orb) (s : Int × Int) (lk d : Int) (hh : ∀ i, -90 ≤ hgt o s lk d i ∧ hgt o s lk d i ≤ 90) : ∀ n, 0 < n → (∃ i, i < n ∧ hgt o s lk d i = (mm o s lk d n).1) ∧ ∃ i, i < n ∧ hgt o s lk d i = (mm o s lk d n).2
  | 1, _ => by
    have := hh 0
    refine ⟨⟨0, by omega, ?_⟩, 0, by omega, ?_⟩
    · show _ = min 90 (hgt o s lk d 0); omega
    · show _ = max (-90) (hgt o s lk d 0); omega
  | n + 2, _ => by
    obtain ⟨⟨i, hi, h1⟩, k, hk, h2⟩ := mm_hit o s lk d hh (n + 1) (by omega)
    rw [show mm o s lk d (n + 2) = (min (mm o s lk d (n + 1)).1 (hgt o s lk d (n + 1)), max (mm o s lk d (n + 1)).2 (hgt o s lk d (n + 1))) from rfl]
    simp only []
    constructor
    · rcases Int.le_total (mm o s lk d (n + 1)).1 (hgt o s lk d (n + 1)) with q | q
      · exact ⟨i, by omega, by omega⟩
      · exact ⟨n + 1, by omega, by omega⟩
    · rcases Int.le_total (mm o s lk d (n + 1)).2 (hgt o s lk d (n + 1)) with q | q
      · exact ⟨n + 1, by omega, by omega⟩
      · exact ⟨k, by omega, by omega⟩
theorem sunF_bd {A : Nat → Int × Int} : ∀ n j, j < n → (sunF A n).1 ≤ (A j).1 ∧ (A j).2 ≤ (sunF A n).2
  | 1, j, hj => by
    obtain rfl : j = 0 := by omega
    exact ⟨Int.le_refl _, Int.le_refl _⟩
  | n + 2, j, hj => by
    rw [show sunF A (n + 2) = (min (sunF A (n + 1)).1 (A (n + 1)).1, max (sunF A (n + 1)).2 (A (n + 1)).2) from rfl]
    simp only []
    rcases Nat.lt_or_ge j (n + 1) with q | q
    · have := sunF_bd (A := A) (n + 1) j q; omega
    · obtain rfl : j = n + 1 := by omega
      omega
theorem sunF_hit {A : Nat → Int × Int} : ∀ n, 0 < n → (∃ j, j < n ∧ (A j).1 = (sunF A n).1) ∧ ∃ j, j < n ∧ (A j).2 = (sunF A n).2
  | 1, _ => ⟨⟨0, by omega, rfl⟩, 0, by omega, rfl⟩
  | n + 2, _ => by
    obtain ⟨⟨i, hi, h1⟩, k, hk, h2⟩ := sunF_hit (A := A) (n + 1) (by omega)
    rw [show sunF A (n + 2) = (min (sunF A (n + 1)).1 (A (n + 1)).1, max (sunF A (n + 1)).2 (A (n + 1)).2) from rfl]
    simp only []
    constructor
    · rcases Int.le_total (sunF A (n + 1)).1 (A (n + 1)).1 with q | q
      · exact ⟨i, by omega, by omega⟩
      · exact ⟨n + 1, by omega, by omega⟩
    · rcases Int.le_total (sunF A (n + 1)).2 (A (n + 1)).2 with q | q
      · exact ⟨n + 1, by omega, by omega⟩
      · exact ⟨k, by omega, by omega⟩
theorem hgt_bd {o : Orb} (h : Orb.ok o = true) {s : Int × Int} (hs : 0 ≤ s.1) (lk d : Int) (i : Nat) : -90 ≤ hgt o s lk d i ∧ hgt o s lk d i ≤ 90 := by
  have h1 := sx_lt o lk (s.1 + ((i : Nat) : Int) - d)
  have h2 := Orb.cy_lt h (s.1 + ((i : Nat) : Int) - d)
  exact Sun.height_bd (by omega) (by omega) (by omega) (by omega) (by omega)
def hgtJ (o : Orb) (s : Int × Int) (lk : Int) (j i : Nat) : Int := hgt o s lk (-o.sl + ((j : Nat) : Int)) i
def mins (s : Int × Int) : Nat := (s.2 - s.1).toNat
theorem suns_bd (o : Orb) (s : Int × Int) (lk : Int) {j i : Nat} (hj : j < lates o) (hi : i < mins s) : (suns o s lk).1 ≤ hgtJ o s lk j i ∧ hgtJ o s lk j i ≤ (suns o s lk).2 := by
  have h1 := sunF_bd (A := sunJ o s lk) (lates o) j hj
  have h2 := mm_bd o s lk (-o.sl + ((j : Nat) : Int)) (mins s) i hi
  unfold suns hgtJ
  have h3 : sunJ o s lk j = mm o s lk (-o.sl + ((j : Nat) : Int)) (mins s) := rfl
  rw [h3] at h1
  omega
/-- Has P a number below n? -/
def anyN (P : Nat → Bool) : Nat → Bool
  | 0 => false
  | n + 1 => anyN P n || P n
theorem any_succ (P : Nat → Bool) (n : Nat) : anyN P (n + 1) = (anyN P n || P n) := rfl
theorem any_hit {P : Nat → Bool} {i : Nat} : ∀ {n}, i < n → P i = true → anyN P n = true
  | n + 1, h, hp => by
    rw [any_succ]
    rcases Nat.lt_or_ge i n with q | q
    · rw [any_hit q hp]; rfl
    · obtain rfl : i = n := by omega
      rw [hp, Bool.or_true]
def lowQ (o : Orb) (s : Int × Int) (lk : Int) (j i : Nat) : Bool := decide (hgtJ o s lk j i = (suns o s lk).1)
def topQ (o : Orb) (s : Int × Int) (lk : Int) (j i : Nat) : Bool := decide (hgtJ o s lk j i = (suns o s lk).2)
section
variable {o : Orb} {s : Int × Int} {lk : Int} (hh : ∀ d i, -90 ≤ hgt o s lk d i ∧ hgt o s lk d i ≤ 90) (h0 : 0 < lates o) (h1 : 0 < mins s)
include hh h0 h1
theorem low_hit : anyN (fun j => anyN (lowQ o s lk j) (mins s)) (lates o) = true := by
  obtain ⟨⟨j, hj, h2⟩, _⟩ := sunF_hit (A := sunJ o s lk) (lates o) h0
  obtain ⟨⟨i, hi, h3⟩, _⟩ := mm_hit o s lk (-o.sl + ((j : Nat) : Int)) (hh _) (mins s) h1
  exact any_hit hj (any_hit hi (decide_eq_true (h3.trans h2)))
theorem top_hit : anyN (fun j => anyN (topQ o s lk j) (mins s)) (lates o) = true := by
  obtain ⟨_, j, hj, h2⟩ := sunF_hit (A := sunJ o s lk) (lates o) h0
  obtain ⟨_, i, hi, h3⟩ := mm_hit o s lk (-o.sl + ((j : Nat) : Int)) (hh _) (mins s) h1
  exact any_hit hj (any_hit hi (decide_eq_true (h3.trans h2)))
end
end Swath
end Go.Proofs.Ytdjjkhefdalokaa

/- Contracts of package globe: Same. -/
namespace Go.Proofs.Ytdjjkhefdalokaa
open Go.RowKit

theorem ne_of_at {l1 l2 : List Int} {k : Nat} (h : Globe.nth l1 k ≠ Globe.nth l2 k) : decide (l1 = l2) = false := by
  rw [decide_eq_false_iff_not]; intro e; exact h (by rw [e])
/-- Two lists of ints in memory, compared. -/
theorem slicesEqual_c (a1 : Option Addr) (l1 : List Int) (n1 c1 : Nat) (a2 : Option Addr) (l2 : List Int) (n2 c2 : Nat) (w : World) (h1 : IntsAt w a1 l1) (hn1 : l1.length = n1) (hl1 : n1 ≤ 140737488355328) (h2 : IntsAt w a2 l2) (hn2 : l2.length = n2) (hl2 : n2 ≤ 140737488355328) :
    Calls Try.prog 79 #[.slice a1 n1 c1, .slice a2 n2 c2] w fun e w' => e = .returned (.bool (decide (l1 = l2))) ∧ Ext w w' := by
  by_cases hne : n1 = n2
  · subst hne
    rcases Nat.eq_zero_or_pos n1 with h0 | h0
    · subst h0
      obtain rfl := List.length_eq_zero_iff.1 hn1
      obtain rfl := List.length_eq_zero_iff.1 hn2
      clear h1 h2 hn1 hn2 hl1 hl2
      go_enter Try.func79, Try.ntmps79
      go_wp2_with fail
      refine wp_loop_rounds 1 ?_
      rw [rounds_succ]
      go_wp2_with fail
      go_ret
      exact ⟨rfl, by (repeat' (first | (with_reducible assumption) | (with_reducible exact Ext.refl _) | (with_reducible refine Ext.alloc ?_ _) | (with_reducible refine Ext.drew ?_) | (with_reducible refine Ext.drewN ?_ _) | (with_reducible refine Ext.setCell ?_ ?_ _) | (with_reducible refine Ext.trans ?_ (by assumption)) | go_size))⟩
    · have e1 : ∃ b off, a1 = some ⟨b, off, none⟩ ∧ ∀ i, i < n1 → w.cell? ⟨b, off + i, none⟩ = some (.int .i64 (Globe.nth l1 i)) := by
        rcases h1 with rfl | ⟨b, off, rfl, h⟩
        · simp at hn1; omega
        · exact ⟨b, off, rfl, fun i hi => h i (by omega)⟩
      have e2 : ∃ b off, a2 = some ⟨b, off, none⟩ ∧ ∀ i, i < n1 → w.cell? ⟨b, off + i, none⟩ = some (.int .i64 (Globe.nth l2 i)) := by
        rcases h2 with rfl | ⟨b, off, rfl, h⟩
        · simp at hn2; omega
        · exact ⟨b, off, rfl, fun i hi => h i (by omega)⟩
      obtain ⟨b1, o1, rfl, r1⟩ := e1
      obtain ⟨b2, o2, rfl, r2⟩ := e2
      have R1 := Lib.hid r1; clear r1
      have R2 := Lib.hid r2; clear r2
      have Hn1 := Lib.hid hn1; clear hn1
      have Hn2 := Lib.hid hn2; clear hn2
      clear h1 h2 hl2
      go_enter Try.func79, Try.ntmps79
      go_wp2_with fail
      go_loopw [13] (fun p wr => ∃ k : Nat, k ≤ n1 ∧ p = .int .i64 k ∧ Hid (∀ j, j < k → Globe.nth l1 j = Globe.nth l2 j) ∧ Ext w wr) (fun p _ => n1 - (intOf p).toNat)
      case atStart => exact ⟨0, by omega, rfl, fun j hj => by omega, by (repeat' (first | (with_reducible assumption) | (with_reducible exact Ext.refl _) | (with_reducible refine Ext.alloc ?_ _) | (with_reducible refine Ext.drew ?_) | (with_reducible refine Ext.drewN ?_ _) | (with_reducible refine Ext.setCell ?_ ?_ _) | (with_reducible refine Ext.trans ?_ (by assumption)) | go_size))⟩
      case round =>
        obtain ⟨k, hk, rfl, Hp, hE⟩ := hrel
        by_cases hlt : k < n1
        · have d1 : wr.cell? ⟨b1, o1 + k, none⟩ = some (.int .i64 (Globe.nth l1 k)) := hE.cell (R1.out k hlt)
          have d2 : wr.cell? ⟨b2, o2 + k, none⟩ = some (.int .i64 (Globe.nth l2 k)) := hE.cell (R2.out k hlt)
          have k0 : (0 : Int) ≤ (k : Int) := by omega
          have k1 : (k : Int) < (n1 : Int) := by omega
          generalize hx : Globe.nth l1 k = x at *
          generalize hy : Globe.nth l2 k = y at *
          have Hx := Lib.hid hx; clear hx
          have Hy := Lib.hid hy; clear hy
          by_cases hxy : x = y
          · subst hxy
            go_wp2_with fail
            go_quiet (fail)
            go_wp2_with fail
            go_roundw
            case rel => exact ⟨k + 1, by omega, by go_num, fun j hj => by
              rcases Nat.lt_or_ge j k with h | h
              · exact Hp.out j h
              · rw [show j = k by omega, Hx.out, Hy.out], by (repeat' (first | (with_reducible assumption) | (with_reducible exact Ext.refl _) | (with_reducible refine Ext.alloc ?_ _) | (with_reducible refine Ext.drew ?_) | (with_reducible refine Ext.drewN ?_ _) | (with_reducible refine Ext.setCell ?_ ?_ _) | (with_reducible refine Ext.trans ?_ (by assumption)) | go_size))⟩
            case measure => simp [intOf]; omega
          · go_wp2_with fail
            go_quiet (fail)
            go_wp2_with fail
            go_ret
            exact ⟨ret_bool (ne_of_at (k := k) (by rw [Hx.out, Hy.out]; exact hxy)).symm, by (repeat' (first | (with_reducible assumption) | (with_reducible exact Ext.refl _) | (with_reducible refine Ext.alloc ?_ _) | (with_reducible refine Ext.drew ?_) | (with_reducible refine Ext.drewN ?_ _) | (with_reducible refine Ext.setCell ?_ ?_ _) | (with_reducible refine Ext.trans ?_ (by assumption)) | go_size))⟩
        · obtain rfl : k = n1 := by omega
          go_wp2_with fail
          go_ret
          exact ⟨ret_bool (by rw [eq_comm, decide_eq_true_eq]; exact Globe.ext_nth (by rw [Hn1.out, Hn2.out]) fun j hj => Hp.out j (by rw [← Hn1.out]; exact hj)), by (repeat' (first | (with_reducible assumption) | (with_reducible exact Ext.refl _) | (with_reducible refine Ext.alloc ?_ _) | (with_reducible refine Ext.drew ?_) | (with_reducible refine Ext.drewN ?_ _) | (with_reducible refine Ext.setCell ?_ ?_ _) | (with_reducible refine Ext.trans ?_ (by assumption)) | go_size))⟩
  · have hd : decide (l1 = l2) = false := by
      rw [decide_eq_false_iff_not]; intro e; subst e; exact hne (by omega)
    have hni : ¬ (n1 : Int) = (n2 : Int) := by omega
    have Hd := Lib.hid hd; clear hd
    clear h1 h2 hn1 hn2
    go_enter Try.func79, Try.ntmps79
    go_wp2_with fail
    go_ret
    exact ⟨ret_bool (by rw [Hd.out]), by (repeat' (first | (with_reducible assumption) | (with_reducible exact Ext.refl _) | (with_reducible refine Ext.alloc ?_ _) | (with_reducible refine Ext.drew ?_) | (with_reducible refine Ext.drewN ?_ _) | (with_reducible refine Ext.setCell ?_ ?_ _) | (with_reducible refine Ext.trans ?_ (by assumption)) | go_size))⟩

theorem Same_c {w1 w2 : World} {a1 : Option Addr} {l1 : List Int} {n1 : Nat} (c1 : Nat) {v1 : Bool} {a2 : Option Addr} {l2 : List Int} {n2 : Nat} (c2 : Nat) {v2 : Bool} (w : World) (h1 : AA w1 a1 l1 n1 v1) (e1 : Ext w1 w) (h2 : AA w2 a2 l2 n2 v2) (e2 : Ext w2 w) :
    Calls Try.prog 36 #[.agg #[.slice a1 n1 c1], .agg #[.slice a2 n2 c2]] w fun e w' => e = .returned (.bool (decide (l1 = l2))) ∧ Ext w w' := by
  have H1 := Lib.hid (h1.ext e1)
  have H2 := Lib.hid (h2.ext e2)
  clear h1 h2 e1 e2
  go_enter Try.func36, Try.ntmps36
  go_wp2_with (go_at_call 79; refine (slicesEqual_c _ l1 _ _ _ l2 _ _ _ (H1.out.1.ext (by (repeat' (first | (with_reducible assumption) | (with_reducible exact Ext.refl _) | (with_reducible refine Ext.alloc ?_ _) | (with_reducible refine Ext.drew ?_) | (with_reducible refine Ext.drewN ?_ _) | (with_reducible refine Ext.setCell ?_ ?_ _) | (with_reducible refine Ext.trans ?_ (by assumption)) | go_size)))) H1.out.2.1 H1.out.2.2.1 (H2.out.1.ext (by (repeat' (first | (with_reducible assumption) | (with_reducible exact Ext.refl _) | (with_reducible refine Ext.alloc ?_ _) | (with_reducible refine Ext.drew ?_) | (with_reducible refine Ext.drewN ?_ _) | (with_reducible refine Ext.setCell ?_ ?_ _) | (with_reducible refine Ext.trans ?_ (by assumption)) | go_size)))) H2.out.2.1 H2.out.2.2.1).mono ?_; rintro e w1 ⟨rfl, hb⟩; have hc := hb.cellE; have hf := hb.frozenE; have hz := hb.size; have ha := alloc_keeps w1; (try simp only [World.size_alloc] at hc hf hz); (try simp only [World.size_setCell] at hc hf hz); (try simp only [World.size_drew] at hc hf hz))
  go_ret
  exact ⟨rfl, by (repeat' (first | (with_reducible assumption) | (with_reducible exact Ext.refl _) | (with_reducible refine Ext.alloc ?_ _) | (with_reducible refine Ext.drew ?_) | (with_reducible refine Ext.drewN ?_ _) | (with_reducible refine Ext.setCell ?_ ?_ _) | (with_reducible refine Ext.trans ?_ (by assumption)) | go_size))⟩

end Go.Proofs.Ytdjjkhefdalokaa

/- What every law of this seat uses: integers in their bounds; the openers. -/
namespace Go.Proofs.Ytdjjkhefdalokaa
open Go.ChangeShapes Go.WideShapes Go.ChangeAt Go.RowKit Go.Deep

theorem own : ownKnob Try.prog.godebug = none := by kernel_rfl
theorem laidOut : laidOutB Try.prog = true := by kernel_rfl
theorem isI_of_wf {n : Int} (h : (Lit.int .i64 n).wf = true) : IsI n := by
  simp [Lit.wf, IntKind.min, IntKind.max, IntKind.signed, IntKind.bits] at h
  exact ⟨by omega, by omega⟩

def Pair (v : Value) : Prop := ∃ x y : Int, v = .agg #[.int .i64 x, .int .i64 y] ∧ IsI x ∧ IsI y
def Seven (v : Value) : Prop := ∃ x0 x1 x2 x3 x4 x5 x6 : Int, v = .agg #[.int .i64 x0, .int .i64 x1, .int .i64 x2, .int .i64 x3, .int .i64 x4, .int .i64 x5, .int .i64 x6] ∧ IsI x0 ∧ IsI x1 ∧ IsI x2 ∧ IsI x3 ∧ IsI x4 ∧ IsI x5 ∧ IsI x6
def Four (v : Value) : Prop := ∃ x0 x1 x2 x3 : Int, v = .agg #[.int .i64 x0, .int .i64 x1, .int .i64 x2, .int .i64 x3] ∧ IsI x0 ∧ IsI x1 ∧ IsI x2 ∧ IsI x3

section
variable {H : Type} {enc : TypeId × Value → H} {W : World}
/-- An array of ints (each one cell): what it reads. -/
theorem ints_of_array {spare : Nat → Bool} {held : Bool} {t : TypeId} {k fuel : Nat} {cs : List Value} {x : DataW H × List MemPlace} (ht : Try.prog.underlying t = some (.array k 3)) (h : DataW.trod enc Try.prog W 0 spare held fuel t cs = some x) (hc : cs.length = k) :
    ∃ q : Nat → Int, ∀ j, j < k → cs[j]? = some (.int .i64 (q j)) ∧ IsI (q j) := by
  obtain ⟨xs, m, rfl, hx, hlen, hxl, hg⟩ := DataW.trod_array ht h
  have hone : Try.prog.cellsOf 3 = 1 := by kernel_rfl
  have each : ∀ j, j < k → ∃ n : Int, cs[j]? = some (.int .i64 n) ∧ IsI n := fun j hj => by
    have h1 := hg j hj
    rw [hone, Nat.mul_one] at h1
    have hx : xs[j]? = some (xs[j]'(by omega)) := List.getElem?_eq_getElem (by omega)
    rw [hx] at h1
    obtain ⟨n, hn, _, hw⟩ := DataW.trod_int Try.underlying3 h1
    have hcj : cs[j]? = some (.int .i64 n) := by
      have e : ((cs.drop j).take 1)[0]? = some (.int .i64 n) := by rw [hn]; rfl
      rw [List.getElem?_take_of_lt (by omega), List.getElem?_drop, Nat.add_zero] at e
      exact e
    exact ⟨n, hcj, isI_of_wf hw⟩
  obtain ⟨q, hq⟩ := choose_lt each
  exact ⟨q, hq⟩

set_option maxRecDepth 100000 in
theorem open_pair {b0 : Nat} {v : Value} {d : DataW H} {p : List MemPlace} (hval : Value.okWide Try.prog W .any b0 35 v) (h : DataW.Trod enc Try.prog W 0 (fun _ => true) true 35 v d p) : Pair v := by
  have hu := Try.underlying35
  simp only [Value.okWide, hu] at hval
  obtain ⟨cs, rfl, hsz, _⟩ := hval
  have h2 : Try.prog.cellsOf 35 = 2 := by kernel_rfl
  obtain ⟨fuel, hf⟩ := h
  have hl : cs.toList.length = 2 := by rw [Array.length_toList, hsz, h2]
  obtain ⟨q, hq⟩ := ints_of_array hu hf (by simpa [Value.cells] using hl)
  obtain ⟨l⟩ := cs
  match l, hl with
  | [x0, x1], _ =>
    have e0 := hq 0 (by omega)
    have e1 := hq 1 (by omega)
    simp [Value.cells] at e0 e1
    exact ⟨q 0, q 1, by rw [e0.1, e1.1], e0.2, e1.2⟩
set_option maxRecDepth 100000 in
theorem open_seven {b0 : Nat} {v : Value} {d : DataW H} {p : List MemPlace} (hval : Value.okWide Try.prog W .any b0 22 v) (h : DataW.Trod enc Try.prog W 0 (fun _ => true) true 22 v d p) : Seven v := by
  have hu := Try.underlying22
  simp only [Value.okWide, hu] at hval
  obtain ⟨cs, rfl, hsz, _⟩ := hval
  have h2 : Try.prog.cellsOf 22 = 7 := by kernel_rfl
  obtain ⟨fuel, hf⟩ := h
  have hl : cs.toList.length = 7 := by rw [Array.length_toList, hsz, h2]
  obtain ⟨q, hq⟩ := ints_of_array hu hf (by simpa [Value.cells] using hl)
  obtain ⟨l⟩ := cs
  match l, hl with
  | [x0, x1, x2, x3, x4, x5, x6], _ =>
    have e0 := hq 0 (by omega)
    have e1 := hq 1 (by omega)
    have e2 := hq 2 (by omega)
    have e3 := hq 3 (by omega)
    have e4 := hq 4 (by omega)
    have e5 := hq 5 (by omega)
    have e6 := hq 6 (by omega)
    simp [Value.cells] at e0 e1 e2 e3 e4 e5 e6
    exact ⟨q 0, q 1, q 2, q 3, q 4, q 5, q 6, by rw [e0.1, e1.1, e2.1, e3.1, e4.1, e5.1, e6.1], e0.2, e1.2, e2.2, e3.2, e4.2, e5.2, e6.2⟩
end
end Go.Proofs.Ytdjjkhefdalokaa

/- Contracts that the laws of chapter 8 use. -/
namespace Go.Proofs.Ytdjjkhefdalokaa
open Go.RowKit

theorem pick8_k (c n : Int) (w : World) (h0 : 0 ≤ c) (h1 : c < n) (h2 : n ≤ 100000000) : Calls Try.prog 42 #[.int .i64 c, .int .i64 n] w fun e w' => e = .returned (.int .i64 c) ∧ w = w' := by
  have h := pick8_c c n w ⟨by omega, by omega⟩ (by omega) h2
  rwa [show pickF c n = c by rw [pickF_pos h0, Int.emod_eq_of_lt h0 h1]] at h
theorem pickL_i (c n : Int) (w : World) (hc : IsI c) (h0 : 0 < n) (h1 : n ≤ 100000000) : Calls Try.prog 13 #[.int .i64 c, .int .i64 n] w fun e w' => ∃ k : Int, e = .returned (.int .i64 k) ∧ 0 ≤ k ∧ k < n ∧ w = w' :=
  (pickL_c c n w hc h0 h1).mono fun _ _ ⟨he, hw⟩ => ⟨_, he, (pickF_bd h0).1, (pickF_bd h0).2, hw⟩
theorem Contains_w {b1 o1 b2 o2 : Nat} (c1 c2 : Nat) {l1 l2 : List Int} {r : Bool} (w : World) (h1 : VA w b1 o1 l1) (h2 : VA w b2 o2 l2) (hr : Globe.containsB l1 l2 = r) :
    Calls Try.prog 31 #[.agg #[.slice (some ⟨b1, o1, none⟩) 24 c1], .agg #[.slice (some ⟨b2, o2, none⟩) 24 c2]] w fun e w' => e = .returned (.bool r) ∧ Ext w w' := hr ▸ Contains_v c1 c2 w h1 (Ext.refl _) h2 (Ext.refl _)
theorem Same_w {b1 o1 b2 o2 : Nat} (c1 c2 : Nat) {l1 l2 : List Int} {r : Bool} (w : World) (h1 : VA w b1 o1 l1) (h2 : VA w b2 o2 l2) (hr : decide (l1 = l2) = r) :
    Calls Try.prog 36 #[.agg #[.slice (some ⟨b1, o1, none⟩) 24 c1], .agg #[.slice (some ⟨b2, o2, none⟩) 24 c2]] w fun e w' => e = .returned (.bool r) ∧ Ext w w' := by
  have h := Same_c c1 c2 w h1.aa (Ext.refl _) h2.aa (Ext.refl _)
  rw [← hr]; exact h
theorem Valid_w {b1 o1 : Nat} (c1 : Nat) {l1 : List Int} (w : World) (h1 : VA w b1 o1 l1) : Calls Try.prog 33 #[.agg #[.slice (some ⟨b1, o1, none⟩) 24 c1]] w fun e w' => e = .returned (.bool true) ∧ Ext w w' := Valid_e _ _ h1.aa (Ext.refl _)
set_option maxRecDepth 1000000 in
set_option maxHeartbeats 4000000 in
theorem Shot2_c (x0 x1 : Int) (w : World) (i0 : IsI x0) (h0 : 0 ≤ x1) (h1 : x1 < 30) : Calls Try.prog 12 #[.agg #[.int .i64 x0, .int .i64 x1]] w fun e w' => ∃ s : Int × Int, e = .returned (.agg #[.int .i64 s.1, .int .i64 s.2]) ∧ Swath.spB s 30 = true ∧ s.1 ≤ 2999 ∧ s.2 = s.1 + 1 + x1 ∧ Ext w w' := by
  refine calls_cw 15 [(0, .agg #[.int .i64 (x0 : Int), .int .i64 (x1 : Int)])] Try.func12 rfl Try.ntmps12 (by kernel_rfl) (by kernel_rfl) (fun L => ?_)
  have hE : Ext w w := Ext.refl w
  refine cw_seq ?_
  refine cw_plain ?_
  refine pl_step rfl (by kernel_rfl) (by kernel_rfl) (by kernel_rfl) (sn_new (us := #[.int .i64 (x0 : Int), .int .i64 (x1 : Int)]) (t := 35) (by kernel_rfl) ?_)
  intro O1 X2 hO hOs hb hbx
  have hzO1 := hO; have hyO1 := hOs; clear hO hOs
  have bO1_0 : BoxAt X2 O1 0 (.int .i64 (x0 : Int)) := hbx 0 _ rfl
  have bO1_1 : BoxAt X2 O1 1 (.int .i64 (x1 : Int)) := hbx 1 _ rfl
  clear hbx
  replace hE := hE.trans hb
  have hs3 := hb.size
  clear hb
  have lt4 := bO1_0.lt
  refine pl_step rfl (by kernel_rfl) (by kernel_rfl) (by kernel_rfl) (sn_new (us := #[.int .i64 0, .int .i64 0]) (t := 26) (by kernel_rfl) ?_)
  intro O5 X6 hO hOs hb hbx
  have hzO5 := hO; have hyO5 := hOs; clear hO hOs
  have bO5_0 : BoxAt X6 O5 0 (.int .i64 0) := hbx 0 _ rfl
  have bO5_1 : BoxAt X6 O5 1 (.int .i64 0) := hbx 1 _ rfl
  clear hbx
  replace hE := hE.trans hb
  replace bO1_0 := BoxAt.ext hb bO1_0
  replace bO1_1 := BoxAt.ext hb bO1_1
  have hs7 := hb.size
  clear hb
  have lt8 := bO5_0.lt
  refine pl_nil ?_
  refine qw_then ?_
  refine cw_seq ?_
  refine cw_plain ?_
  refine pl_take (.pointer (some ⟨O1, 0, none⟩)) rfl (by kernel_rfl) (by kernel_rfl) (by kernel_rfl) (by kernel_rfl) ?_
  refine pl_take (.int .i64 (x0 : Int)) rfl (by kernel_rfl) (by kernel_rfl) (by kernel_rfl) (ex_load rfl (by kernel_rfl) (ld3 (bO1_0.1))) ?_
  refine pl_step rfl (by kernel_rfl) (by kernel_rfl) (by kernel_rfl) (sn_call (f := 42) (args := #[.int .i64 (x0 : Int), .int .i64 3000]) (by kernel_rfl) ((pick8_n _ (3000) _ i0 (by omega) (by omega)).mono ?_))
  rintro e w' ⟨pk9, rfl, pk9l, -, rfl⟩
  refine ⟨_, rfl, ?_⟩
  refine pl_take (.int .i64 (((pk9 : Nat) : Int) : Int)) rfl (by kernel_rfl) (by kernel_rfl) (by kernel_rfl) (by kernel_rfl) ?_
  refine pl_nil ?_
  refine qw_then ?_
  refine cw_seq ?_
  refine cw_plain ?_
  refine pl_take (.int .i64 (((pk9 : Nat) : Int) : Int)) rfl (by kernel_rfl) (by kernel_rfl) (by kernel_rfl) (by kernel_rfl) ?_
  refine pl_take (.int .i64 (((pk9 : Nat) : Int) : Int)) rfl (by kernel_rfl) (by kernel_rfl) (by kernel_rfl) (by kernel_rfl) ?_
  refine pl_take (.int .i64 (((pk9 + 1 : Nat) : Int) : Int)) rfl (by kernel_rfl) (by kernel_rfl) (by kernel_rfl) (ev_wrap (by kernel_rfl) (by omega) (by omega)) ?_
  refine pl_take (.pointer (some ⟨O1, 1, none⟩)) rfl (by kernel_rfl) (by kernel_rfl) (by kernel_rfl) (by kernel_rfl) ?_
  refine pl_take (.int .i64 (x1 : Int)) rfl (by kernel_rfl) (by kernel_rfl) (by kernel_rfl) (ex_load rfl (by kernel_rfl) (ld3 (bO1_1.1))) ?_
  refine pl_step rfl (by kernel_rfl) (by kernel_rfl) (by kernel_rfl) (sn_call (f := 42) (args := #[.int .i64 (x1 : Int), .int .i64 30]) (by kernel_rfl) ((pick8_k _ _ _ h0 h1 (by omega)).mono ?_))
  rintro e w' ⟨rfl, rfl⟩
  refine ⟨_, rfl, ?_⟩
  refine pl_take (.int .i64 ((((pk9 + 1 : Nat) : Int)) + x1 : Int)) rfl (by kernel_rfl) (by kernel_rfl) (by kernel_rfl) (ev_wrap (by kernel_rfl) (by omega) (by omega)) ?_
  refine pl_take (.agg #[.int .i64 (((pk9 : Nat) : Int) : Int), .int .i64 ((((pk9 + 1 : Nat) : Int)) + x1 : Int)]) rfl (by kernel_rfl) (by kernel_rfl) (by kernel_rfl) (by kernel_rfl) ?_
  refine pl_put rfl (by kernel_rfl) (by kernel_rfl) (sn_set2 (O := O5) (j := 0) (v := .int .i64 (((pk9 : Nat) : Int) : Int)) (v' := .int .i64 ((((pk9 + 1 : Nat) : Int)) + x1 : Int)) (ex_store (p := .pointer (some ⟨O5, 0, none⟩)) (v := .agg #[.int .i64 (((pk9 : Nat) : Int) : Int), .int .i64 ((((pk9 + 1 : Nat) : Int)) + x1 : Int)]) rfl (by kernel_rfl) (by kernel_rfl) (st26 bO5_0.1 bO5_0.2 bO5_1.1 bO5_1.2)) bO5_0 bO5_1 ?_)
  intro X10 ho hv0 hv1 hk
  replace hE := ho.ext hE (Nat.le_trans hs3 (Nat.le_of_eq hzO5))
  replace bO1_0 := ho.box (Nat.ne_of_gt (Nat.lt_of_lt_of_le lt4 (Nat.le_of_eq hzO5))) bO1_0
  replace bO1_1 := ho.box (Nat.ne_of_gt (Nat.lt_of_lt_of_le lt4 (Nat.le_of_eq hzO5))) bO1_1
  have hs11 : X6.heap.size ≤ X10.heap.size := Nat.le_of_eq ho.size.symm
  clear ho hk bO5_0 bO5_1
  have bO5_0 := hv0; clear hv0
  have bO5_1 := hv1; clear hv1
  refine pl_nil ?_
  refine qw_then ?_
  refine cw_clean [2] (ws' := [(2, .pointer (some ⟨O5, 0, none⟩))]) (by kernel_rfl) (fun L => ?_)
  refine cw_ret ?_
  refine qw_ret [.agg #[.int .i64 (((pk9 : Nat) : Int) : Int), .int .i64 ((((pk9 + 1 : Nat) : Int)) + x1 : Int)]] rfl ⟨⟨_, by kernel_rfl, res_ld (ld26 (bO5_0.1) (bO5_1.1))⟩, trivial⟩ ?_
  exact ⟨(((pk9 : Nat) : Int), (((pk9 + 1 : Nat) : Int)) + x1), rfl, Swath.spB_t.2 ⟨by simp only []; omega, by simp only []; omega, by simp only []; omega, by simp only []; omega⟩, by simp only []; omega, rfl, hE⟩

end Go.Proofs.Ytdjjkhefdalokaa

/- The walk of SwathSuns. -/
namespace Go.Proofs.Ytdjjkhefdalokaa
open Go.RowKit

set_option maxRecDepth 1000000 in
set_option maxHeartbeats 4000000 in
theorem SwathSuns_w (x0 x1 x2 x3 x4 x5 x6 y0 y1 lk : Int) (ix0 : IsI x0) (ix1 : IsI x1) (ix2 : IsI x2) (ix3 : IsI x3) (ix4 : IsI x4) (ix5 : IsI x5) (ix6 : IsI x6) (iy0 : IsI y0) (iy1 : IsI y1) (ilk : IsI lk) (w : World) : Calls Try.prog 4 #[.agg #[.int .i64 x0, .int .i64 x1, .int .i64 x2, .int .i64 x3, .int .i64 x4, .int .i64 x5, .int .i64 x6], .agg #[.int .i64 y0, .int .i64 y1], .int .i64 lk] w fun e w' => e = .returned (.bool true) ∧ Ext w w' := by
  refine calls_cw 115 [(2, .int .i64 (lk : Int)), (1, .agg #[.int .i64 (y0 : Int), .int .i64 (y1 : Int)]), (0, .agg #[.int .i64 (x0 : Int), .int .i64 (x1 : Int), .int .i64 (x2 : Int), .int .i64 (x3 : Int), .int .i64 (x4 : Int), .int .i64 (x5 : Int), .int .i64 (x6 : Int)])] Try.func4 rfl Try.ntmps4 (by kernel_rfl) (by kernel_rfl) (fun L => ?_)
  have hE : Ext w w := Ext.refl w
  refine cw_seq ?_
  refine cw_plain ?_
  refine pl_step rfl (by kernel_rfl) (by kernel_rfl) (by kernel_rfl) (sn_new (us := #[.int .i64 (x0 : Int), .int .i64 (x1 : Int), .int .i64 (x2 : Int), .int .i64 (x3 : Int), .int .i64 (x4 : Int), .int .i64 (x5 : Int), .int .i64 (x6 : Int)]) (t := 22) (by kernel_rfl) ?_)
  intro O1 X2 hO hOs hb hbx
  have hzO1 := hO; have hyO1 := hOs; clear hO hOs
  have bO1_0 : BoxAt X2 O1 0 (.int .i64 (x0 : Int)) := hbx 0 _ rfl
  have bO1_1 : BoxAt X2 O1 1 (.int .i64 (x1 : Int)) := hbx 1 _ rfl
  have bO1_2 : BoxAt X2 O1 2 (.int .i64 (x2 : Int)) := hbx 2 _ rfl
  have bO1_3 : BoxAt X2 O1 3 (.int .i64 (x3 : Int)) := hbx 3 _ rfl
  have bO1_4 : BoxAt X2 O1 4 (.int .i64 (x4 : Int)) := hbx 4 _ rfl
  have bO1_5 : BoxAt X2 O1 5 (.int .i64 (x5 : Int)) := hbx 5 _ rfl
  have bO1_6 : BoxAt X2 O1 6 (.int .i64 (x6 : Int)) := hbx 6 _ rfl
  clear hbx
  replace hE := hE.trans hb
  have hs3 := hb.size
  clear hb
  have lt4 := bO1_0.lt
  refine pl_step rfl (by kernel_rfl) (by kernel_rfl) (by kernel_rfl) (sn_new (us := #[.int .i64 (y0 : Int), .int .i64 (y1 : Int)]) (t := 35) (by kernel_rfl) ?_)
  intro O5 X6 hO hOs hb hbx
  have hzO5 := hO; have hyO5 := hOs; clear hO hOs
  have bO5_0 : BoxAt X6 O5 0 (.int .i64 (y0 : Int)) := hbx 0 _ rfl
  have bO5_1 : BoxAt X6 O5 1 (.int .i64 (y1 : Int)) := hbx 1 _ rfl
  clear hbx
  replace hE := hE.trans hb
  replace bO1_0 := BoxAt.ext hb bO1_0
  replace bO1_1 := BoxAt.ext hb bO1_1
  replace bO1_2 := BoxAt.ext hb bO1_2
  replace bO1_3 := BoxAt.ext hb bO1_3
  replace bO1_4 := BoxAt.ext hb bO1_4
  replace bO1_5 := BoxAt.ext hb bO1_5
  replace bO1_6 := BoxAt.ext hb bO1_6
  have hs7 := hb.size
  clear hb
  have lt8 := bO5_0.lt
  refine pl_take (.bool false) rfl (by kernel_rfl) (by kernel_rfl) (by kernel_rfl) (by kernel_rfl) ?_
  refine pl_nil ?_
  refine qw_then ?_
  refine cw_seq ?_
  refine cw_plain ?_
  refine pl_step rfl (by kernel_rfl) (by kernel_rfl) (by kernel_rfl) (sn_call (f := 9) (args := #[]) (by kernel_rfl) ((saneS_c _).mono ?_))
  rintro e w9 ⟨rfl, hb⟩
  replace hE := hE.trans hb
  replace bO1_0 := BoxAt.ext hb bO1_0
  replace bO1_1 := BoxAt.ext hb bO1_1
  replace bO1_2 := BoxAt.ext hb bO1_2
  replace bO1_3 := BoxAt.ext hb bO1_3
  replace bO1_4 := BoxAt.ext hb bO1_4
  replace bO1_5 := BoxAt.ext hb bO1_5
  replace bO1_6 := BoxAt.ext hb bO1_6
  replace bO5_0 := BoxAt.ext hb bO5_0
  replace bO5_1 := BoxAt.ext hb bO5_1
  have hs10 := hb.size
  clear hb
  refine ⟨_, rfl, ?_⟩
  refine pl_take (.bool true) rfl (by kernel_rfl) (by kernel_rfl) (by kernel_rfl) (by kernel_rfl) ?_
  refine pl_nil ?_
  refine qw_then ?_
  refine cw_seq ?_
  refine cw_seq ?_
  refine cw_plain ?_
  refine pl_take (.bool true) rfl (by kernel_rfl) (by kernel_rfl) (by kernel_rfl) (by kernel_rfl) ?_
  refine pl_take (.bool false) rfl (by kernel_rfl) (by kernel_rfl) (by kernel_rfl) (by kernel_rfl) ?_
  refine pl_nil ?_
  refine qw_then ?_
  refine cw_f (by kernel_rfl) ?_
  refine cw_skip ?_
  refine qw_then ?_
  refine cw_seq ?_
  refine cw_plain ?_
  refine pl_take (.agg #[.int .i64 (x0 : Int), .int .i64 (x1 : Int), .int .i64 (x2 : Int), .int .i64 (x3 : Int), .int .i64 (x4 : Int), .int .i64 (x5 : Int), .int .i64 (x6 : Int)]) rfl (by kernel_rfl) (by kernel_rfl) (by kernel_rfl) (ex_load rfl (by kernel_rfl) (ld22 (bO1_0.1) (bO1_1.1) (bO1_2.1) (bO1_3.1) (bO1_4.1) (bO1_5.1) (bO1_6.1))) ?_
  refine pl_step rfl (by kernel_rfl) (by kernel_rfl) (by kernel_rfl) (sn_call (f := 11) (args := #[.agg #[.int .i64 (x0 : Int), .int .i64 (x1 : Int), .int .i64 (x2 : Int), .int .i64 (x3 : Int), .int .i64 (x4 : Int), .int .i64 (x5 : Int), .int .i64 (x6 : Int)]]) (by kernel_rfl) ((Made7_c _ _ _ _ _ _ _ _ ix0 ix1 ix2 ix3 ix4 ix5 ix6).mono ?_))
  rintro e w11 ⟨o, rfl, hok, hsl, hb⟩
  replace hE := hE.trans hb
  replace bO1_0 := BoxAt.ext hb bO1_0
  replace bO1_1 := BoxAt.ext hb bO1_1
  replace bO1_2 := BoxAt.ext hb bO1_2
  replace bO1_3 := BoxAt.ext hb bO1_3
  replace bO1_4 := BoxAt.ext hb bO1_4
  replace bO1_5 := BoxAt.ext hb bO1_5
  replace bO1_6 := BoxAt.ext hb bO1_6
  replace bO5_0 := BoxAt.ext hb bO5_0
  replace bO5_1 := BoxAt.ext hb bO5_1
  have hs12 := hb.size
  clear hb
  have hq0 := Orb.ok_t.1 hok
  refine ⟨_, rfl, ?_⟩
  refine pl_step rfl (by kernel_rfl) (by kernel_rfl) (by kernel_rfl) (sn_new (us := #[.int .i64 0, .int .i64 0, .int .i64 0, .int .i64 0, .int .i64 0, .int .i64 0, .int .i64 0]) (t := 24) (by kernel_rfl) ?_)
  intro O13 X14 hO hOs hb hbx
  have hzO13 := hO; have hyO13 := hOs; clear hO hOs
  have bO13_0 : BoxAt X14 O13 0 (.int .i64 0) := hbx 0 _ rfl
  have bO13_1 : BoxAt X14 O13 1 (.int .i64 0) := hbx 1 _ rfl
  have bO13_2 : BoxAt X14 O13 2 (.int .i64 0) := hbx 2 _ rfl
  have bO13_3 : BoxAt X14 O13 3 (.int .i64 0) := hbx 3 _ rfl
  have bO13_4 : BoxAt X14 O13 4 (.int .i64 0) := hbx 4 _ rfl
  have bO13_5 : BoxAt X14 O13 5 (.int .i64 0) := hbx 5 _ rfl
  have bO13_6 : BoxAt X14 O13 6 (.int .i64 0) := hbx 6 _ rfl
  clear hbx
  replace hE := hE.trans hb
  replace bO1_0 := BoxAt.ext hb bO1_0
  replace bO1_1 := BoxAt.ext hb bO1_1
  replace bO1_2 := BoxAt.ext hb bO1_2
  replace bO1_3 := BoxAt.ext hb bO1_3
  replace bO1_4 := BoxAt.ext hb bO1_4
  replace bO1_5 := BoxAt.ext hb bO1_5
  replace bO1_6 := BoxAt.ext hb bO1_6
  replace bO5_0 := BoxAt.ext hb bO5_0
  replace bO5_1 := BoxAt.ext hb bO5_1
  have hs15 := hb.size
  clear hb
  have lt16 := bO13_0.lt
  refine pl_put rfl (by kernel_rfl) (by kernel_rfl) (sn_setK7 (O := O13) (j := 0) (v0 := .int .i64 (o.p : Int)) (v1 := .int .i64 (o.f : Int)) (v2 := .int .i64 (o.lo : Int)) (v3 := .int .i64 (o.hi : Int)) (v4 := .int .i64 (o.nd : Int)) (v5 := .int .i64 (o.tn : Int)) (v6 := .int .i64 (o.sl : Int)) (ex_store (p := .pointer (some ⟨O13, 0, none⟩)) (v := .agg #[.int .i64 (o.p : Int), .int .i64 (o.f : Int), .int .i64 (o.lo : Int), .int .i64 (o.hi : Int), .int .i64 (o.nd : Int), .int .i64 (o.tn : Int), .int .i64 (o.sl : Int)]) rfl (by kernel_rfl) (by kernel_rfl) (st24 bO13_0.1 bO13_0.2 bO13_1.1 bO13_1.2 bO13_2.1 bO13_2.2 bO13_3.1 bO13_3.2 bO13_4.1 bO13_4.2 bO13_5.1 bO13_5.2 bO13_6.1 bO13_6.2)) bO13_0 bO13_1 bO13_2 bO13_3 bO13_4 bO13_5 bO13_6 ?_)
  intro X17 ho hv0 hv1 hv2 hv3 hv4 hv5 hv6 hk
  replace hE := ho.ext hE (Nat.le_trans (Nat.le_trans hs3 (Nat.le_trans hs7 (Nat.le_trans hs10 hs12))) (Nat.le_of_eq hzO13))
  replace bO1_0 := ho.box (Nat.ne_of_gt (Nat.lt_of_lt_of_le lt4 (Nat.le_trans (Nat.le_trans hs7 (Nat.le_trans hs10 hs12)) (Nat.le_of_eq hzO13)))) bO1_0
  replace bO1_1 := ho.box (Nat.ne_of_gt (Nat.lt_of_lt_of_le lt4 (Nat.le_trans (Nat.le_trans hs7 (Nat.le_trans hs10 hs12)) (Nat.le_of_eq hzO13)))) bO1_1
  replace bO1_2 := ho.box (Nat.ne_of_gt (Nat.lt_of_lt_of_le lt4 (Nat.le_trans (Nat.le_trans hs7 (Nat.le_trans hs10 hs12)) (Nat.le_of_eq hzO13)))) bO1_2
  replace bO1_3 := ho.box (Nat.ne_of_gt (Nat.lt_of_lt_of_le lt4 (Nat.le_trans (Nat.le_trans hs7 (Nat.le_trans hs10 hs12)) (Nat.le_of_eq hzO13)))) bO1_3
  replace bO1_4 := ho.box (Nat.ne_of_gt (Nat.lt_of_lt_of_le lt4 (Nat.le_trans (Nat.le_trans hs7 (Nat.le_trans hs10 hs12)) (Nat.le_of_eq hzO13)))) bO1_4
  replace bO1_5 := ho.box (Nat.ne_of_gt (Nat.lt_of_lt_of_le lt4 (Nat.le_trans (Nat.le_trans hs7 (Nat.le_trans hs10 hs12)) (Nat.le_of_eq hzO13)))) bO1_5
  replace bO1_6 := ho.box (Nat.ne_of_gt (Nat.lt_of_lt_of_le lt4 (Nat.le_trans (Nat.le_trans hs7 (Nat.le_trans hs10 hs12)) (Nat.le_of_eq hzO13)))) bO1_6
  replace bO5_0 := ho.box (Nat.ne_of_gt (Nat.lt_of_lt_of_le lt8 (Nat.le_trans (Nat.le_trans hs10 hs12) (Nat.le_of_eq hzO13)))) bO5_0
  replace bO5_1 := ho.box (Nat.ne_of_gt (Nat.lt_of_lt_of_le lt8 (Nat.le_trans (Nat.le_trans hs10 hs12) (Nat.le_of_eq hzO13)))) bO5_1
  have hs18 : X14.heap.size ≤ X17.heap.size := Nat.le_of_eq ho.size.symm
  clear ho hk bO13_0 bO13_1 bO13_2 bO13_3 bO13_4 bO13_5 bO13_6
  have bO13_0 := hv0; clear hv0
  have bO13_1 := hv1; clear hv1
  have bO13_2 := hv2; clear hv2
  have bO13_3 := hv3; clear hv3
  have bO13_4 := hv4; clear hv4
  have bO13_5 := hv5; clear hv5
  have bO13_6 := hv6; clear hv6
  refine pl_nil ?_
  refine qw_then ?_
  refine cw_seq ?_
  refine cw_plain ?_
  refine pl_take (.agg #[.int .i64 (y0 : Int), .int .i64 (y1 : Int)]) rfl (by kernel_rfl) (by kernel_rfl) (by kernel_rfl) (ex_load rfl (by kernel_rfl) (ld35 (bO5_0.1) (bO5_1.1))) ?_
  refine pl_step rfl (by kernel_rfl) (by kernel_rfl) (by kernel_rfl) (sn_call (f := 12) (args := #[.agg #[.int .i64 (y0 : Int), .int .i64 (y1 : Int)]]) (by kernel_rfl) ((Shot_c _ _ _ iy0 iy1).mono ?_))
  rintro e w19 ⟨s, rfl, hsp30, hsp1, hb⟩
  replace hE := hE.trans hb
  replace bO1_0 := BoxAt.ext hb bO1_0
  replace bO1_1 := BoxAt.ext hb bO1_1
  replace bO1_2 := BoxAt.ext hb bO1_2
  replace bO1_3 := BoxAt.ext hb bO1_3
  replace bO1_4 := BoxAt.ext hb bO1_4
  replace bO1_5 := BoxAt.ext hb bO1_5
  replace bO1_6 := BoxAt.ext hb bO1_6
  replace bO5_0 := BoxAt.ext hb bO5_0
  replace bO5_1 := BoxAt.ext hb bO5_1
  replace bO13_0 := BoxAt.ext hb bO13_0
  replace bO13_1 := BoxAt.ext hb bO13_1
  replace bO13_2 := BoxAt.ext hb bO13_2
  replace bO13_3 := BoxAt.ext hb bO13_3
  replace bO13_4 := BoxAt.ext hb bO13_4
  replace bO13_5 := BoxAt.ext hb bO13_5
  replace bO13_6 := BoxAt.ext hb bO13_6
  have hs20 := hb.size
  clear hb
  have q2 := Swath.spB_t.1 hsp30
  refine ⟨_, rfl, ?_⟩
  refine pl_step rfl (by kernel_rfl) (by kernel_rfl) (by kernel_rfl) (sn_new (us := #[.int .i64 0, .int .i64 0]) (t := 26) (by kernel_rfl) ?_)
  intro O21 X22 hO hOs hb hbx
  have hzO21 := hO; have hyO21 := hOs; clear hO hOs
  have bO21_0 : BoxAt X22 O21 0 (.int .i64 0) := hbx 0 _ rfl
  have bO21_1 : BoxAt X22 O21 1 (.int .i64 0) := hbx 1 _ rfl
  clear hbx
  replace hE := hE.trans hb
  replace bO1_0 := BoxAt.ext hb bO1_0
  replace bO1_1 := BoxAt.ext hb bO1_1
  replace bO1_2 := BoxAt.ext hb bO1_2
  replace bO1_3 := BoxAt.ext hb bO1_3
  replace bO1_4 := BoxAt.ext hb bO1_4
  replace bO1_5 := BoxAt.ext hb bO1_5
  replace bO1_6 := BoxAt.ext hb bO1_6
  replace bO5_0 := BoxAt.ext hb bO5_0
  replace bO5_1 := BoxAt.ext hb bO5_1
  replace bO13_0 := BoxAt.ext hb bO13_0
  replace bO13_1 := BoxAt.ext hb bO13_1
  replace bO13_2 := BoxAt.ext hb bO13_2
  replace bO13_3 := BoxAt.ext hb bO13_3
  replace bO13_4 := BoxAt.ext hb bO13_4
  replace bO13_5 := BoxAt.ext hb bO13_5
  replace bO13_6 := BoxAt.ext hb bO13_6
  have hs23 := hb.size
  clear hb
  have lt24 := bO21_0.lt
  refine pl_put rfl (by kernel_rfl) (by kernel_rfl) (sn_set2 (O := O21) (j := 0) (v := .int .i64 (s.1 : Int)) (v' := .int .i64 (s.2 : Int)) (ex_store (p := .pointer (some ⟨O21, 0, none⟩)) (v := .agg #[.int .i64 (s.1 : Int), .int .i64 (s.2 : Int)]) rfl (by kernel_rfl) (by kernel_rfl) (st26 bO21_0.1 bO21_0.2 bO21_1.1 bO21_1.2)) bO21_0 bO21_1 ?_)
  intro X25 ho hv0 hv1 hk
  replace hE := ho.ext hE (Nat.le_trans (Nat.le_trans hs3 (Nat.le_trans hs7 (Nat.le_trans hs10 (Nat.le_trans hs12 (Nat.le_trans hs15 (Nat.le_trans hs18 hs20)))))) (Nat.le_of_eq hzO21))
  replace bO1_0 := ho.box (Nat.ne_of_gt (Nat.lt_of_lt_of_le lt4 (Nat.le_trans (Nat.le_trans hs7 (Nat.le_trans hs10 (Nat.le_trans hs12 (Nat.le_trans hs15 (Nat.le_trans hs18 hs20))))) (Nat.le_of_eq hzO21)))) bO1_0
  replace bO1_1 := ho.box (Nat.ne_of_gt (Nat.lt_of_lt_of_le lt4 (Nat.le_trans (Nat.le_trans hs7 (Nat.le_trans hs10 (Nat.le_trans hs12 (Nat.le_trans hs15 (Nat.le_trans hs18 hs20))))) (Nat.le_of_eq hzO21)))) bO1_1
  replace bO1_2 := ho.box (Nat.ne_of_gt (Nat.lt_of_lt_of_le lt4 (Nat.le_trans (Nat.le_trans hs7 (Nat.le_trans hs10 (Nat.le_trans hs12 (Nat.le_trans hs15 (Nat.le_trans hs18 hs20))))) (Nat.le_of_eq hzO21)))) bO1_2
  replace bO1_3 := ho.box (Nat.ne_of_gt (Nat.lt_of_lt_of_le lt4 (Nat.le_trans (Nat.le_trans hs7 (Nat.le_trans hs10 (Nat.le_trans hs12 (Nat.le_trans hs15 (Nat.le_trans hs18 hs20))))) (Nat.le_of_eq hzO21)))) bO1_3
  replace bO1_4 := ho.box (Nat.ne_of_gt (Nat.lt_of_lt_of_le lt4 (Nat.le_trans (Nat.le_trans hs7 (Nat.le_trans hs10 (Nat.le_trans hs12 (Nat.le_trans hs15 (Nat.le_trans hs18 hs20))))) (Nat.le_of_eq hzO21)))) bO1_4
  replace bO1_5 := ho.box (Nat.ne_of_gt (Nat.lt_of_lt_of_le lt4 (Nat.le_trans (Nat.le_trans hs7 (Nat.le_trans hs10 (Nat.le_trans hs12 (Nat.le_trans hs15 (Nat.le_trans hs18 hs20))))) (Nat.le_of_eq hzO21)))) bO1_5
  replace bO1_6 := ho.box (Nat.ne_of_gt (Nat.lt_of_lt_of_le lt4 (Nat.le_trans (Nat.le_trans hs7 (Nat.le_trans hs10 (Nat.le_trans hs12 (Nat.le_trans hs15 (Nat.le_trans hs18 hs20))))) (Nat.le_of_eq hzO21)))) bO1_6
  replace bO5_0 := ho.box (Nat.ne_of_gt (Nat.lt_of_lt_of_le lt8 (Nat.le_trans (Nat.le_trans hs10 (Nat.le_trans hs12 (Nat.le_trans hs15 (Nat.le_trans hs18 hs20)))) (Nat.le_of_eq hzO21)))) bO5_0
  replace bO5_1 := ho.box (Nat.ne_of_gt (Nat.lt_of_lt_of_le lt8 (Nat.le_trans (Nat.le_trans hs10 (Nat.le_trans hs12 (Nat.le_trans hs15 (Nat.le_trans hs18 hs20)))) (Nat.le_of_eq hzO21)))) bO5_1
  replace bO13_0 := ho.box (Nat.ne_of_gt (Nat.lt_of_lt_of_le lt16 (Nat.le_trans (Nat.le_trans hs18 hs20) (Nat.le_of_eq hzO21)))) bO13_0
  replace bO13_1 := ho.box (Nat.ne_of_gt (Nat.lt_of_lt_of_le lt16 (Nat.le_trans (Nat.le_trans hs18 hs20) (Nat.le_of_eq hzO21)))) bO13_1
  replace bO13_2 := ho.box (Nat.ne_of_gt (Nat.lt_of_lt_of_le lt16 (Nat.le_trans (Nat.le_trans hs18 hs20) (Nat.le_of_eq hzO21)))) bO13_2
  replace bO13_3 := ho.box (Nat.ne_of_gt (Nat.lt_of_lt_of_le lt16 (Nat.le_trans (Nat.le_trans hs18 hs20) (Nat.le_of_eq hzO21)))) bO13_3
  replace bO13_4 := ho.box (Nat.ne_of_gt (Nat.lt_of_lt_of_le lt16 (Nat.le_trans (Nat.le_trans hs18 hs20) (Nat.le_of_eq hzO21)))) bO13_4
  replace bO13_5 := ho.box (Nat.ne_of_gt (Nat.lt_of_lt_of_le lt16 (Nat.le_trans (Nat.le_trans hs18 hs20) (Nat.le_of_eq hzO21)))) bO13_5
  replace bO13_6 := ho.box (Nat.ne_of_gt (Nat.lt_of_lt_of_le lt16 (Nat.le_trans (Nat.le_trans hs18 hs20) (Nat.le_of_eq hzO21)))) bO13_6
  have hs26 : X22.heap.size ≤ X25.heap.size := Nat.le_of_eq ho.size.symm
  clear ho hk bO21_0 bO21_1
  have bO21_0 := hv0; clear hv0
  have bO21_1 := hv1; clear hv1
  refine pl_nil ?_
  refine qw_then ?_
  refine cw_clean [2, 7, 8, 9] (ws' := [(2, .int .i64 (lk : Int)), (7, .bool true), (8, .pointer (some ⟨O13, 0, none⟩)), (9, .pointer (some ⟨O21, 0, none⟩))]) (by kernel_rfl) (fun L => ?_)
  refine cw_seq ?_
  refine cw_plain ?_
  refine pl_take (.int .i64 (lk : Int)) rfl (by kernel_rfl) (by kernel_rfl) (by kernel_rfl) (by kernel_rfl) ?_
  refine pl_step rfl (by kernel_rfl) (by kernel_rfl) (by kernel_rfl) (sn_call (f := 13) (args := #[.int .i64 (lk : Int), .int .i64 9]) (by kernel_rfl) ((pickL_n _ (9) _ ilk (by omega) (by omega)).mono ?_))
  rintro e w' ⟨pk28, rfl, pk28l, -, rfl⟩
  refine ⟨_, rfl, ?_⟩
  refine pl_take (.int .i64 ((((pk28 : Nat) : Int)) - 4 : Int)) rfl (by kernel_rfl) (by kernel_rfl) (by kernel_rfl) (ev_wrap (by kernel_rfl) (by omega) (by omega)) ?_
  refine pl_take (.int .i64 ((((pk28 : Nat) : Int)) - 4 : Int)) rfl (by kernel_rfl) (by kernel_rfl) (by kernel_rfl) (by kernel_rfl) ?_
  refine pl_nil ?_
  refine qw_then ?_
  refine cw_seq ?_
  refine cw_plain ?_
  refine pl_take (.agg #[.int .i64 (o.p : Int), .int .i64 (o.f : Int), .int .i64 (o.lo : Int), .int .i64 (o.hi : Int), .int .i64 (o.nd : Int), .int .i64 (o.tn : Int), .int .i64 (o.sl : Int)]) rfl (by kernel_rfl) (by kernel_rfl) (by kernel_rfl) (ex_load rfl (by kernel_rfl) (ld24 (bO13_0.1) (bO13_1.1) (bO13_2.1) (bO13_3.1) (bO13_4.1) (bO13_5.1) (bO13_6.1))) ?_
  refine pl_take (.agg #[.int .i64 (s.1 : Int), .int .i64 (s.2 : Int)]) rfl (by kernel_rfl) (by kernel_rfl) (by kernel_rfl) (ex_load rfl (by kernel_rfl) (ld26 (bO21_0.1) (bO21_1.1))) ?_
  refine pl_take (.int .i64 ((((pk28 : Nat) : Int)) - 4 : Int)) rfl (by kernel_rfl) (by kernel_rfl) (by kernel_rfl) (by kernel_rfl) ?_
  refine pl_step rfl (by kernel_rfl) (by kernel_rfl) (by kernel_rfl) (sn_call (f := 19) (args := #[.agg #[.int .i64 (o.p : Int), .int .i64 (o.f : Int), .int .i64 (o.lo : Int), .int .i64 (o.hi : Int), .int .i64 (o.nd : Int), .int .i64 (o.tn : Int), .int .i64 (o.sl : Int)], .agg #[.int .i64 (s.1 : Int), .int .i64 (s.2 : Int)], .int .i64 ((((pk28 : Nat) : Int)) - 4 : Int)]) (by kernel_rfl) ((Suns_y (o := o) (s := s) (lk := (((pk28 : Nat) : Int)) - 4) _ (Swath.shB_t.2 ⟨hok, ⟨by first | omega | (simp only []; omega), by first | omega | (simp only []; omega), by first | omega | (simp only []; omega), by first | omega | (simp only []; omega)⟩, by omega, by omega⟩)).mono ?_))
  rintro e w29 ⟨rfl, hb⟩
  replace hE := hE.trans hb
  replace bO1_0 := BoxAt.ext hb bO1_0
  replace bO1_1 := BoxAt.ext hb bO1_1
  replace bO1_2 := BoxAt.ext hb bO1_2
  replace bO1_3 := BoxAt.ext hb bO1_3
  replace bO1_4 := BoxAt.ext hb bO1_4
  replace bO1_5 := BoxAt.ext hb bO1_5
  replace bO1_6 := BoxAt.ext hb bO1_6
  replace bO5_0 := BoxAt.ext hb bO5_0
  replace bO5_1 := BoxAt.ext hb bO5_1
  replace bO13_0 := BoxAt.ext hb bO13_0
  replace bO13_1 := BoxAt.ext hb bO13_1
  replace bO13_2 := BoxAt.ext hb bO13_2
  replace bO13_3 := BoxAt.ext hb bO13_3
  replace bO13_4 := BoxAt.ext hb bO13_4
  replace bO13_5 := BoxAt.ext hb bO13_5
  replace bO13_6 := BoxAt.ext hb bO13_6
  replace bO21_0 := BoxAt.ext hb bO21_0
  replace bO21_1 := BoxAt.ext hb bO21_1
  have hs30 := hb.size
  clear hb
  refine ⟨_, rfl, ?_⟩
  refine pl_take (.tuple #[.int .i64 ((Swath.suns o s ((((pk28 : Nat) : Int)) - 4)).1 : Int), .int .i64 ((Swath.suns o s ((((pk28 : Nat) : Int)) - 4)).2 : Int), .int .i64 0]) rfl (by kernel_rfl) (by kernel_rfl) (by kernel_rfl) (by kernel_rfl) ?_
  refine pl_take (.int .i64 ((Swath.suns o s ((((pk28 : Nat) : Int)) - 4)).1 : Int)) rfl (by kernel_rfl) (by kernel_rfl) (by kernel_rfl) (by kernel_rfl) ?_
  refine pl_take (.int .i64 ((Swath.suns o s ((((pk28 : Nat) : Int)) - 4)).2 : Int)) rfl (by kernel_rfl) (by kernel_rfl) (by kernel_rfl) (by kernel_rfl) ?_
  refine pl_take (.int .i64 0) rfl (by kernel_rfl) (by kernel_rfl) (by kernel_rfl) (by kernel_rfl) ?_
  refine pl_take (.int .i64 ((Swath.suns o s ((((pk28 : Nat) : Int)) - 4)).1 : Int)) rfl (by kernel_rfl) (by kernel_rfl) (by kernel_rfl) (by kernel_rfl) ?_
  refine pl_take (.int .i64 ((Swath.suns o s ((((pk28 : Nat) : Int)) - 4)).2 : Int)) rfl (by kernel_rfl) (by kernel_rfl) (by kernel_rfl) (by kernel_rfl) ?_
  refine pl_take (.int .i64 0) rfl (by kernel_rfl) (by kernel_rfl) (by kernel_rfl) (by kernel_rfl) ?_
  refine pl_nil ?_
  refine qw_then ?_
  refine cw_clean [7, 8, 9, 10, 11, 12, 13] (ws' := [(7, .bool true), (8, .pointer (some ⟨O13, 0, none⟩)), (9, .pointer (some ⟨O21, 0, none⟩)), (10, .int .i64 ((((pk28 : Nat) : Int)) - 4 : Int)), (11, .int .i64 ((Swath.suns o s ((((pk28 : Nat) : Int)) - 4)).1 : Int)), (12, .int .i64 ((Swath.suns o s ((((pk28 : Nat) : Int)) - 4)).2 : Int)), (13, .int .i64 0)]) (by kernel_rfl) (fun L => ?_)
  refine cw_seq ?_
  refine cw_seq ?_
  refine cw_plain ?_
  refine pl_take (.int .i64 0) rfl (by kernel_rfl) (by kernel_rfl) (by kernel_rfl) (by kernel_rfl) ?_
  refine pl_take (.bool false) rfl (by kernel_rfl) (by kernel_rfl) (by kernel_rfl) (by kernel_rfl) ?_
  refine pl_nil ?_
  refine qw_then ?_
  refine cw_f (by kernel_rfl) ?_
  refine cw_skip ?_
  refine qw_then ?_
  refine cw_seq ?_
  refine cw_plain ?_
  refine pl_take (.bool false) rfl (by kernel_rfl) (by kernel_rfl) (by kernel_rfl) (by kernel_rfl) ?_
  refine pl_nil ?_
  refine qw_then ?_
  refine cw_seq ?_
  refine cw_plain ?_
  refine pl_take (.bool false) rfl (by kernel_rfl) (by kernel_rfl) (by kernel_rfl) (by kernel_rfl) ?_
  refine pl_nil ?_
  refine qw_then ?_
  refine cw_seq ?_
  refine cw_seq ?_
  refine cw_plain ?_
  refine pl_take (.pointer (some ⟨O13, 6, none⟩)) rfl (by kernel_rfl) (by kernel_rfl) (by kernel_rfl) (by kernel_rfl) ?_
  refine pl_take (.int .i64 (o.sl : Int)) rfl (by kernel_rfl) (by kernel_rfl) (by kernel_rfl) (ex_load rfl (by kernel_rfl) (ld3 (bO13_6.1))) ?_
  refine pl_take (.int .i64 (-o.sl : Int)) rfl (by kernel_rfl) (by kernel_rfl) (by kernel_rfl) (ev_int (ev_wrap (a := 0 - o.sl) (by kernel_rfl) (by omega) (by omega)) (by omega)) ?_
  refine pl_take (.int .i64 (-o.sl + ((0 : Nat) : Int) : Int)) rfl (by kernel_rfl) (by kernel_rfl) (by kernel_rfl) (ev_int (show _ = Result.ok (Next.value (Value.int .i64 (-o.sl))) _ from by kernel_rfl) (by omega)) ?_
  refine pl_nil ?_
  refine qw_then ?_
  refine cw_clean [7, 8, 9, 10, 11, 12, 14, 15, 16] (ws' := [(7, .bool true), (8, .pointer (some ⟨O13, 0, none⟩)), (9, .pointer (some ⟨O21, 0, none⟩)), (10, .int .i64 ((((pk28 : Nat) : Int)) - 4 : Int)), (11, .int .i64 ((Swath.suns o s ((((pk28 : Nat) : Int)) - 4)).1 : Int)), (12, .int .i64 ((Swath.suns o s ((((pk28 : Nat) : Int)) - 4)).2 : Int)), (14, .bool false), (15, .bool false), (16, .int .i64 (-o.sl + ((0 : Nat) : Int) : Int))]) (by kernel_rfl) (fun L => ?_)
  refine cw_block ?_
  have hN : Swath.lates o = (2 * o.sl + 1).toNat := rfl
  have hM : Swath.mins s = (s.2 - s.1).toNat := rfl
  have hh9 := fun d i => Swath.hgt_bd hok (s := s) q2.1 ((((pk28 : Nat) : Int)) - 4) d i
  have hX31 : Ext w29 w29 := Ext.refl _
  refine cw_loop [7, 8, 9, 10, 11, 12, 14, 15, 16] (fun ws' wr m => ∃ j : Nat, ∃ p : Bool, ∃ q : Bool, ws' = [(7, .bool true), (8, .pointer (some ⟨O13, 0, none⟩)), (9, .pointer (some ⟨O21, 0, none⟩)), (10, .int .i64 ((((pk28 : Nat) : Int)) - 4 : Int)), (11, .int .i64 ((Swath.suns o s ((((pk28 : Nat) : Int)) - 4)).1 : Int)), (12, .int .i64 ((Swath.suns o s ((((pk28 : Nat) : Int)) - 4)).2 : Int)), (14, .bool p), (15, .bool q), (16, .int .i64 (-o.sl + ((j : Nat) : Int) : Int))] ∧ m = Swath.lates o - j ∧ w29.heap.size ≤ wr.heap.size ∧ Ext w wr ∧ Ext w29 wr ∧ p = Swath.anyN (fun j => Swath.anyN (Swath.lowQ o s ((((pk28 : Nat) : Int)) - 4) j) (Swath.mins s)) j ∧ q = Swath.anyN (fun j => Swath.anyN (Swath.topQ o s ((((pk28 : Nat) : Int)) - 4) j) (Swath.mins s)) j ∧ j ≤ Swath.lates o) (ws0 := [(7, .bool true), (8, .pointer (some ⟨O13, 0, none⟩)), (9, .pointer (some ⟨O21, 0, none⟩)), (10, .int .i64 ((((pk28 : Nat) : Int)) - 4 : Int)), (11, .int .i64 ((Swath.suns o s ((((pk28 : Nat) : Int)) - 4)).1 : Int)), (12, .int .i64 ((Swath.suns o s ((((pk28 : Nat) : Int)) - 4)).2 : Int)), (14, .bool false), (15, .bool false), (16, .int .i64 (-o.sl + ((0 : Nat) : Int) : Int))]) (by kernel_rfl) _ ⟨0, false, false, rfl, rfl, Nat.le_refl _, hE, hX31, rfl, rfl, Nat.zero_le _⟩ ?_
  clear hE hX31
  rintro m34 L ws w33 ⟨j, p, q, rfl, rfl, hs32, hE, hX31, hp, hq, hj⟩
  by_cases hlt : j < Swath.lates o
  ·
    refine cw_seq ?_
    refine cw_seq ?_
    refine cw_plain ?_
    refine pl_take (.int .i64 (-o.sl + ((j : Nat) : Int) : Int)) rfl (by kernel_rfl) (by kernel_rfl) (by kernel_rfl) (by kernel_rfl) ?_
    refine pl_take (.pointer (some ⟨O13, 6, none⟩)) rfl (by kernel_rfl) (by kernel_rfl) (by kernel_rfl) (by kernel_rfl) ?_
    refine pl_take (.int .i64 (o.sl : Int)) rfl (by kernel_rfl) (by kernel_rfl) (by kernel_rfl) (ex_load rfl (by kernel_rfl) (ld3 ((BoxAt.ext hX31 bO13_6).1))) ?_
    refine pl_take (.bool true) rfl (by kernel_rfl) (by kernel_rfl) (by kernel_rfl) (ev_dec (show _ = Result.ok (Next.value (Value.bool (decide ((-o.sl + ((j : Nat) : Int) : Int) ≤ (o.sl : Int))))) _ from by kernel_rfl) (by omega)) ?_
    refine pl_nil ?_
    refine qw_then ?_
    refine cw_t (by kernel_rfl) ?_
    refine cw_skip ?_
    refine qw_then ?_
    refine cw_seq ?_
    refine cw_block ?_
    refine cw_seq ?_
    have hlt9 := hlt; clear hlt
    refine cw_plain ?_
    refine pl_take (.pointer (some ⟨O21, 0, none⟩)) rfl (by kernel_rfl) (by kernel_rfl) (by kernel_rfl) (by kernel_rfl) ?_
    refine pl_take (.int .i64 (s.1 : Int)) rfl (by kernel_rfl) (by kernel_rfl) (by kernel_rfl) (ex_load rfl (by kernel_rfl) (ld3 ((BoxAt.ext hX31 bO21_0).1))) ?_
    refine pl_take (.int .i64 (s.1 + ((0 : Nat) : Int) : Int)) rfl (by kernel_rfl) (by kernel_rfl) (by kernel_rfl) (ev_int (show _ = Result.ok (Next.value (Value.int .i64 s.1)) _ from by kernel_rfl) (by omega)) ?_
    refine pl_nil ?_
    refine qw_then ?_
    refine cw_clean [7, 8, 9, 10, 11, 12, 14, 15, 16, 17] (ws' := [(7, .bool true), (8, .pointer (some ⟨O13, 0, none⟩)), (9, .pointer (some ⟨O21, 0, none⟩)), (10, .int .i64 ((((pk28 : Nat) : Int)) - 4 : Int)), (11, .int .i64 ((Swath.suns o s ((((pk28 : Nat) : Int)) - 4)).1 : Int)), (12, .int .i64 ((Swath.suns o s ((((pk28 : Nat) : Int)) - 4)).2 : Int)), (14, .bool p), (15, .bool q), (16, .int .i64 (-o.sl + ((j : Nat) : Int) : Int)), (17, .int .i64 (s.1 + ((0 : Nat) : Int) : Int))]) (by kernel_rfl) (fun L => ?_)
    refine cw_block ?_
    have hX35 : Ext w33 w33 := Ext.refl _
    refine cw_loop [7, 8, 9, 10, 11, 12, 14, 15, 16, 17] (fun ws' wr m => ∃ i : Nat, ∃ p1 : Bool, ∃ q1 : Bool, ws' = [(7, .bool true), (8, .pointer (some ⟨O13, 0, none⟩)), (9, .pointer (some ⟨O21, 0, none⟩)), (10, .int .i64 ((((pk28 : Nat) : Int)) - 4 : Int)), (11, .int .i64 ((Swath.suns o s ((((pk28 : Nat) : Int)) - 4)).1 : Int)), (12, .int .i64 ((Swath.suns o s ((((pk28 : Nat) : Int)) - 4)).2 : Int)), (14, .bool p1), (15, .bool q1), (16, .int .i64 (-o.sl + ((j : Nat) : Int) : Int)), (17, .int .i64 (s.1 + ((i : Nat) : Int) : Int))] ∧ m = Swath.mins s - i ∧ w33.heap.size ≤ wr.heap.size ∧ Ext w wr ∧ Ext w29 wr ∧ Ext w33 wr ∧ p1 = (Swath.anyN (fun j => Swath.anyN (Swath.lowQ o s ((((pk28 : Nat) : Int)) - 4) j) (Swath.mins s)) j || Swath.anyN (Swath.lowQ o s ((((pk28 : Nat) : Int)) - 4) j) i) ∧ q1 = (Swath.anyN (fun j => Swath.anyN (Swath.topQ o s ((((pk28 : Nat) : Int)) - 4) j) (Swath.mins s)) j || Swath.anyN (Swath.topQ o s ((((pk28 : Nat) : Int)) - 4) j) i) ∧ i ≤ Swath.mins s) (ws0 := [(7, .bool true), (8, .pointer (some ⟨O13, 0, none⟩)), (9, .pointer (some ⟨O21, 0, none⟩)), (10, .int .i64 ((((pk28 : Nat) : Int)) - 4 : Int)), (11, .int .i64 ((Swath.suns o s ((((pk28 : Nat) : Int)) - 4)).1 : Int)), (12, .int .i64 ((Swath.suns o s ((((pk28 : Nat) : Int)) - 4)).2 : Int)), (14, .bool p), (15, .bool q), (16, .int .i64 (-o.sl + ((j : Nat) : Int) : Int)), (17, .int .i64 (s.1 + ((0 : Nat) : Int) : Int))]) (by kernel_rfl) _ ⟨0, p, q, rfl, rfl, Nat.le_refl _, hE, hX31, hX35, (by rw [hp]; exact (Bool.or_false _).symm), (by rw [hq]; exact (Bool.or_false _).symm), Nat.zero_le _⟩ ?_
    clear hE hX31 hX35
    rintro m38 L ws w37 ⟨i, p1, q1, rfl, rfl, hs36, hE, hX31, hX35, hp1, hq1, hi⟩
    by_cases hlt : i < Swath.mins s
    ·
      have hmin : Sun.minB (s.1 + ((i : Nat) : Int)) = true := Sun.minB_t.2 ⟨by omega, by omega⟩
      have hsx := Swath.sx_lt o ((((pk28 : Nat) : Int)) - 4) (s.1 + ((i : Nat) : Int) - (-o.sl + ((j : Nat) : Int)))
      have hcy := Orb.cy_lt hok (s.1 + ((i : Nat) : Int) - (-o.sl + ((j : Nat) : Int)))
      have hcx := Orb.cx_lt o (s.1 + ((i : Nat) : Int) - (-o.sl + ((j : Nat) : Int)))
      have hvc : Globe.vcB ((Swath.sx o ((((pk28 : Nat) : Int)) - 4) (s.1 + ((i : Nat) : Int) - (-o.sl + ((j : Nat) : Int))) : Nat) : Int) ((Orb.cy o (s.1 + ((i : Nat) : Int) - (-o.sl + ((j : Nat) : Int))) : Nat) : Int) = true := Globe.vcB_t.2 ⟨by omega, by omega, by omega, by omega⟩
      have hbd := Swath.suns_bd o s ((((pk28 : Nat) : Int)) - 4) (j := j) (i := i) hlt9 hlt
      refine cw_seq ?_
      refine cw_seq ?_
      refine cw_plain ?_
      refine pl_take (.int .i64 (s.1 + ((i : Nat) : Int) : Int)) rfl (by kernel_rfl) (by kernel_rfl) (by kernel_rfl) (by kernel_rfl) ?_
      refine pl_take (.pointer (some ⟨O21, 1, none⟩)) rfl (by kernel_rfl) (by kernel_rfl) (by kernel_rfl) (by kernel_rfl) ?_
      refine pl_take (.int .i64 (s.2 : Int)) rfl (by kernel_rfl) (by kernel_rfl) (by kernel_rfl) (ex_load rfl (by kernel_rfl) (ld3 ((BoxAt.ext hX31 bO21_1).1))) ?_
      refine pl_take (.bool true) rfl (by kernel_rfl) (by kernel_rfl) (by kernel_rfl) (ev_dec (show _ = Result.ok (Next.value (Value.bool (decide ((s.1 + ((i : Nat) : Int) : Int) < (s.2 : Int))))) _ from by kernel_rfl) (by omega)) ?_
      refine pl_nil ?_
      refine qw_then ?_
      refine cw_t (by kernel_rfl) ?_
      refine cw_skip ?_
      refine qw_then ?_
      refine cw_seq ?_
      refine cw_block ?_
      refine cw_seq ?_
      refine cw_plain ?_
      refine pl_take (.agg #[.int .i64 (o.p : Int), .int .i64 (o.f : Int), .int .i64 (o.lo : Int), .int .i64 (o.hi : Int), .int .i64 (o.nd : Int), .int .i64 (o.tn : Int), .int .i64 (o.sl : Int)]) rfl (by kernel_rfl) (by kernel_rfl) (by kernel_rfl) (ex_load rfl (by kernel_rfl) (ld24 ((BoxAt.ext hX31 bO13_0).1) ((BoxAt.ext hX31 bO13_1).1) ((BoxAt.ext hX31 bO13_2).1) ((BoxAt.ext hX31 bO13_3).1) ((BoxAt.ext hX31 bO13_4).1) ((BoxAt.ext hX31 bO13_5).1) ((BoxAt.ext hX31 bO13_6).1))) ?_
      refine pl_take (.int .i64 (s.1 + ((i : Nat) : Int) : Int)) rfl (by kernel_rfl) (by kernel_rfl) (by kernel_rfl) (by kernel_rfl) ?_
      refine pl_take (.int .i64 (-o.sl + ((j : Nat) : Int) : Int)) rfl (by kernel_rfl) (by kernel_rfl) (by kernel_rfl) (by kernel_rfl) ?_
      refine pl_step rfl (by kernel_rfl) (by kernel_rfl) (by kernel_rfl) (sn_call (f := 28) (args := #[.agg #[.int .i64 (o.p : Int), .int .i64 (o.f : Int), .int .i64 (o.lo : Int), .int .i64 (o.hi : Int), .int .i64 (o.nd : Int), .int .i64 (o.tn : Int), .int .i64 (o.sl : Int)], .int .i64 (s.1 + ((i : Nat) : Int) : Int), .int .i64 (-o.sl + ((j : Nat) : Int) : Int)]) (by kernel_rfl) ((At_y o (s.1 + ((i : Nat) : Int)) (-o.sl + ((j : Nat) : Int)) _ (by unfold Orb.atB; rw [show Globe.inB (s.1 + ((i : Nat) : Int)) 0 1000000 = true from Globe.inB_t.2 ⟨by omega, by omega⟩, show Globe.inB (-o.sl + ((j : Nat) : Int)) (-10) 10 = true from Globe.inB_t.2 ⟨by omega, by omega⟩, hok]; rfl)).mono ?_))
      rintro e w39 ⟨rfl, hb⟩
      replace hE := hE.trans hb
      replace hX31 := hX31.trans hb
      replace hX35 := hX35.trans hb
      have hs40 := hb.size
      clear hb
      refine ⟨_, rfl, ?_⟩
      refine pl_take (.tuple #[.agg #[.int .i64 (((Orb.cx o ((s.1 + ((i : Nat) : Int)) - (-o.sl + ((j : Nat) : Int))) : Nat) : Int) : Int), .int .i64 (((Orb.cy o ((s.1 + ((i : Nat) : Int)) - (-o.sl + ((j : Nat) : Int))) : Nat) : Int) : Int)], .int .i64 0]) rfl (by kernel_rfl) (by kernel_rfl) (by kernel_rfl) (by kernel_rfl) ?_
      refine pl_take (.agg #[.int .i64 (((Orb.cx o ((s.1 + ((i : Nat) : Int)) - (-o.sl + ((j : Nat) : Int))) : Nat) : Int) : Int), .int .i64 (((Orb.cy o ((s.1 + ((i : Nat) : Int)) - (-o.sl + ((j : Nat) : Int))) : Nat) : Int) : Int)]) rfl (by kernel_rfl) (by kernel_rfl) (by kernel_rfl) (by kernel_rfl) ?_
      refine pl_take (.int .i64 0) rfl (by kernel_rfl) (by kernel_rfl) (by kernel_rfl) (by kernel_rfl) ?_
      refine pl_step rfl (by kernel_rfl) (by kernel_rfl) (by kernel_rfl) (sn_new (us := #[.int .i64 0, .int .i64 0]) (t := 57) (by kernel_rfl) ?_)
      intro O41 X42 hO hOs hb hbx
      have hzO41 := hO; have hyO41 := hOs; clear hO hOs
      have bO41_0 : BoxAt X42 O41 0 (.int .i64 0) := hbx 0 _ rfl
      have bO41_1 : BoxAt X42 O41 1 (.int .i64 0) := hbx 1 _ rfl
      clear hbx
      replace hE := hE.trans hb
      replace hX31 := hX31.trans hb
      replace hX35 := hX35.trans hb
      have hs43 := hb.size
      clear hb
      have lt44 := bO41_0.lt
      refine pl_put rfl (by kernel_rfl) (by kernel_rfl) (sn_set2 (O := O41) (j := 0) (v := .int .i64 (((Orb.cx o ((s.1 + ((i : Nat) : Int)) - (-o.sl + ((j : Nat) : Int))) : Nat) : Int) : Int)) (v' := .int .i64 (((Orb.cy o ((s.1 + ((i : Nat) : Int)) - (-o.sl + ((j : Nat) : Int))) : Nat) : Int) : Int)) (ex_store (p := .pointer (some ⟨O41, 0, none⟩)) (v := .agg #[.int .i64 (((Orb.cx o ((s.1 + ((i : Nat) : Int)) - (-o.sl + ((j : Nat) : Int))) : Nat) : Int) : Int), .int .i64 (((Orb.cy o ((s.1 + ((i : Nat) : Int)) - (-o.sl + ((j : Nat) : Int))) : Nat) : Int) : Int)]) rfl (by kernel_rfl) (by kernel_rfl) (st57 bO41_0.1 bO41_0.2 bO41_1.1 bO41_1.2)) bO41_0 bO41_1 ?_)
      intro X45 ho hv0 hv1 hk
      replace hE := ho.ext hE (Nat.le_trans (Nat.le_trans hs3 (Nat.le_trans hs7 (Nat.le_trans hs10 (Nat.le_trans hs12 (Nat.le_trans hs15 (Nat.le_trans hs18 (Nat.le_trans hs20 (Nat.le_trans hs23 (Nat.le_trans hs26 (Nat.le_trans hs30 (Nat.le_trans hs32 (Nat.le_trans hs36 hs40)))))))))))) (Nat.le_of_eq hzO41))
      replace hX31 := ho.ext hX31 (Nat.le_trans (Nat.le_trans hs32 (Nat.le_trans hs36 hs40)) (Nat.le_of_eq hzO41))
      replace hX35 := ho.ext hX35 (Nat.le_trans (Nat.le_trans hs36 hs40) (Nat.le_of_eq hzO41))
      have hs46 : X42.heap.size ≤ X45.heap.size := Nat.le_of_eq ho.size.symm
      clear ho hk bO41_0 bO41_1
      have bO41_0 := hv0; clear hv0
      have bO41_1 := hv1; clear hv1
      refine pl_take (.int .i64 0) rfl (by kernel_rfl) (by kernel_rfl) (by kernel_rfl) (by kernel_rfl) ?_
      refine pl_nil ?_
      refine qw_then ?_
      refine cw_clean [7, 8, 9, 10, 11, 12, 14, 15, 16, 17, 18, 19] (ws' := [(7, .bool true), (8, .pointer (some ⟨O13, 0, none⟩)), (9, .pointer (some ⟨O21, 0, none⟩)), (10, .int .i64 ((((pk28 : Nat) : Int)) - 4 : Int)), (11, .int .i64 ((Swath.suns o s ((((pk28 : Nat) : Int)) - 4)).1 : Int)), (12, .int .i64 ((Swath.suns o s ((((pk28 : Nat) : Int)) - 4)).2 : Int)), (14, .bool p1), (15, .bool q1), (16, .int .i64 (-o.sl + ((j : Nat) : Int) : Int)), (17, .int .i64 (s.1 + ((i : Nat) : Int) : Int)), (18, .pointer (some ⟨O41, 0, none⟩)), (19, .int .i64 0)]) (by kernel_rfl) (fun L => ?_)
      refine cw_seq ?_
      refine cw_plain ?_
      refine pl_take (.pointer (some ⟨O41, 0, none⟩)) rfl (by kernel_rfl) (by kernel_rfl) (by kernel_rfl) (by kernel_rfl) ?_
      refine pl_take (.int .i64 (((Orb.cx o ((s.1 + ((i : Nat) : Int)) - (-o.sl + ((j : Nat) : Int))) : Nat) : Int) : Int)) rfl (by kernel_rfl) (by kernel_rfl) (by kernel_rfl) (ex_load rfl (by kernel_rfl) (ld3 (bO41_0.1))) ?_
      refine pl_take (.int .i64 ((((pk28 : Nat) : Int)) - 4 : Int)) rfl (by kernel_rfl) (by kernel_rfl) (by kernel_rfl) (by kernel_rfl) ?_
      refine pl_take (.int .i64 ((((Orb.cx o ((s.1 + ((i : Nat) : Int)) - (-o.sl + ((j : Nat) : Int))) : Nat) : Int)) + ((((pk28 : Nat) : Int)) - 4) : Int)) rfl (by kernel_rfl) (by kernel_rfl) (by kernel_rfl) (ev_wrap (by kernel_rfl) (by omega) (by omega)) ?_
      refine pl_take (.int .i64 (((((Orb.cx o ((s.1 + ((i : Nat) : Int)) - (-o.sl + ((j : Nat) : Int))) : Nat) : Int)) + ((((pk28 : Nat) : Int)) - 4)) + 48 : Int)) rfl (by kernel_rfl) (by kernel_rfl) (by kernel_rfl) (ev_wrap (by kernel_rfl) (by omega) (by omega)) ?_
      refine pl_take (.int .i64 (((Swath.sx o ((((pk28 : Nat) : Int)) - 4) (s.1 + ((i : Nat) : Int) - (-o.sl + ((j : Nat) : Int))) : Nat) : Int) : Int)) rfl (by kernel_rfl) (by kernel_rfl) (by kernel_rfl) (ev_int (ex_bin (a := ((Orb.cx o (s.1 + ((i : Nat) : Int) - (-o.sl + ((j : Nat) : Int))) : Nat) : Int) + ((((pk28 : Nat) : Int)) - 4) + 48) (b := 48) rfl (by kernel_rfl) (by kernel_rfl) (bin_tmod (by omega))) ((Int.tmod_eq_emod_of_nonneg (by omega)).trans (Swath.sx_z o _ _))) ?_
      refine pl_take (.pointer (some ⟨O41, 1, none⟩)) rfl (by kernel_rfl) (by kernel_rfl) (by kernel_rfl) (by kernel_rfl) ?_
      refine pl_take (.int .i64 (((Orb.cy o ((s.1 + ((i : Nat) : Int)) - (-o.sl + ((j : Nat) : Int))) : Nat) : Int) : Int)) rfl (by kernel_rfl) (by kernel_rfl) (by kernel_rfl) (ex_load rfl (by kernel_rfl) (ld3 (bO41_1.1))) ?_
      refine pl_take (.agg #[.int .i64 (((Swath.sx o ((((pk28 : Nat) : Int)) - 4) (s.1 + ((i : Nat) : Int) - (-o.sl + ((j : Nat) : Int))) : Nat) : Int) : Int), .int .i64 (((Orb.cy o ((s.1 + ((i : Nat) : Int)) - (-o.sl + ((j : Nat) : Int))) : Nat) : Int) : Int)]) rfl (by kernel_rfl) (by kernel_rfl) (by kernel_rfl) (by kernel_rfl) ?_
      refine pl_take (.int .i64 (s.1 + ((i : Nat) : Int) : Int)) rfl (by kernel_rfl) (by kernel_rfl) (by kernel_rfl) (by kernel_rfl) ?_
      refine pl_step rfl (by kernel_rfl) (by kernel_rfl) (by kernel_rfl) (sn_call (f := 29) (args := #[.agg #[.int .i64 (((Swath.sx o ((((pk28 : Nat) : Int)) - 4) (s.1 + ((i : Nat) : Int) - (-o.sl + ((j : Nat) : Int))) : Nat) : Int) : Int), .int .i64 (((Orb.cy o ((s.1 + ((i : Nat) : Int)) - (-o.sl + ((j : Nat) : Int))) : Nat) : Int) : Int)], .int .i64 (s.1 + ((i : Nat) : Int) : Int)]) (by kernel_rfl) ((Height_yes _ _ _ _ hmin hvc).mono ?_))
      rintro e w47 ⟨rfl, hb⟩
      replace hE := hE.trans hb
      replace hX31 := hX31.trans hb
      replace hX35 := hX35.trans hb
      replace bO41_0 := BoxAt.ext hb bO41_0
      replace bO41_1 := BoxAt.ext hb bO41_1
      have hs48 := hb.size
      clear hb
      refine ⟨_, rfl, ?_⟩
      refine pl_take (.tuple #[.int .i64 (Swath.hgtJ o s ((((pk28 : Nat) : Int)) - 4) j i : Int), .int .i64 0]) rfl (by kernel_rfl) (by kernel_rfl) (by kernel_rfl) (by kernel_rfl) ?_
      refine pl_take (.int .i64 (Swath.hgtJ o s ((((pk28 : Nat) : Int)) - 4) j i : Int)) rfl (by kernel_rfl) (by kernel_rfl) (by kernel_rfl) (by kernel_rfl) ?_
      refine pl_take (.int .i64 0) rfl (by kernel_rfl) (by kernel_rfl) (by kernel_rfl) (by kernel_rfl) ?_
      refine pl_take (.int .i64 (Swath.hgtJ o s ((((pk28 : Nat) : Int)) - 4) j i : Int)) rfl (by kernel_rfl) (by kernel_rfl) (by kernel_rfl) (by kernel_rfl) ?_
      refine pl_take (.int .i64 0) rfl (by kernel_rfl) (by kernel_rfl) (by kernel_rfl) (by kernel_rfl) ?_
      refine pl_nil ?_
      refine qw_then ?_
      refine cw_clean [7, 8, 9, 10, 11, 12, 14, 15, 16, 17, 19, 20, 21] (ws' := [(7, .bool true), (8, .pointer (some ⟨O13, 0, none⟩)), (9, .pointer (some ⟨O21, 0, none⟩)), (10, .int .i64 ((((pk28 : Nat) : Int)) - 4 : Int)), (11, .int .i64 ((Swath.suns o s ((((pk28 : Nat) : Int)) - 4)).1 : Int)), (12, .int .i64 ((Swath.suns o s ((((pk28 : Nat) : Int)) - 4)).2 : Int)), (14, .bool p1), (15, .bool q1), (16, .int .i64 (-o.sl + ((j : Nat) : Int) : Int)), (17, .int .i64 (s.1 + ((i : Nat) : Int) : Int)), (19, .int .i64 0), (20, .int .i64 (Swath.hgtJ o s ((((pk28 : Nat) : Int)) - 4) j i : Int)), (21, .int .i64 0)]) (by kernel_rfl) (fun L => ?_)
      refine cw_seq ?_
      refine cw_seq ?_
      refine cw_plain ?_
      refine pl_take (.int .i64 0) rfl (by kernel_rfl) (by kernel_rfl) (by kernel_rfl) (by kernel_rfl) ?_
      refine pl_take (.bool false) rfl (by kernel_rfl) (by kernel_rfl) (by kernel_rfl) (by kernel_rfl) ?_
      refine pl_take (.bool false) rfl (by kernel_rfl) (by kernel_rfl) (by kernel_rfl) (by kernel_rfl) ?_
      refine pl_take (.int .i64 0) rfl (by kernel_rfl) (by kernel_rfl) (by kernel_rfl) (by kernel_rfl) ?_
      refine pl_take (.bool false) rfl (by kernel_rfl) (by kernel_rfl) (by kernel_rfl) (by kernel_rfl) ?_
      refine pl_take (.bool false) rfl (by kernel_rfl) (by kernel_rfl) (by kernel_rfl) (by kernel_rfl) ?_
      refine pl_take (.bool false) rfl (by kernel_rfl) (by kernel_rfl) (by kernel_rfl) (by kernel_rfl) ?_
      refine pl_take (.int .i64 (Swath.hgtJ o s ((((pk28 : Nat) : Int)) - 4) j i : Int)) rfl (by kernel_rfl) (by kernel_rfl) (by kernel_rfl) (by kernel_rfl) ?_
      refine pl_take (.int .i64 ((Swath.suns o s ((((pk28 : Nat) : Int)) - 4)).1 : Int)) rfl (by kernel_rfl) (by kernel_rfl) (by kernel_rfl) (by kernel_rfl) ?_
      refine pl_take (.bool false) rfl (by kernel_rfl) (by kernel_rfl) (by kernel_rfl) (ev_ndec (show _ = Result.ok (Next.value (Value.bool (decide ((Swath.hgtJ o s ((((pk28 : Nat) : Int)) - 4) j i : Int) < ((Swath.suns o s ((((pk28 : Nat) : Int)) - 4)).1 : Int))))) _ from by kernel_rfl) (by omega)) ?_
      refine pl_take (.bool false) rfl (by kernel_rfl) (by kernel_rfl) (by kernel_rfl) (by kernel_rfl) ?_
      refine pl_take (.bool false) rfl (by kernel_rfl) (by kernel_rfl) (by kernel_rfl) (by kernel_rfl) ?_
      refine pl_take (.int .i64 (Swath.hgtJ o s ((((pk28 : Nat) : Int)) - 4) j i : Int)) rfl (by kernel_rfl) (by kernel_rfl) (by kernel_rfl) (by kernel_rfl) ?_
      refine pl_take (.int .i64 ((Swath.suns o s ((((pk28 : Nat) : Int)) - 4)).2 : Int)) rfl (by kernel_rfl) (by kernel_rfl) (by kernel_rfl) (by kernel_rfl) ?_
      refine pl_take (.bool false) rfl (by kernel_rfl) (by kernel_rfl) (by kernel_rfl) (ev_ndec (show _ = Result.ok (Next.value (Value.bool (decide ((Swath.hgtJ o s ((((pk28 : Nat) : Int)) - 4) j i : Int) > ((Swath.suns o s ((((pk28 : Nat) : Int)) - 4)).2 : Int))))) _ from by kernel_rfl) (by omega)) ?_
      refine pl_take (.bool false) rfl (by kernel_rfl) (by kernel_rfl) (by kernel_rfl) (by kernel_rfl) ?_
      refine pl_nil ?_
      refine qw_then ?_
      refine cw_clean [7, 8, 9, 10, 11, 12, 14, 15, 16, 17, 20, 95] (ws' := [(7, .bool true), (8, .pointer (some ⟨O13, 0, none⟩)), (9, .pointer (some ⟨O21, 0, none⟩)), (10, .int .i64 ((((pk28 : Nat) : Int)) - 4 : Int)), (11, .int .i64 ((Swath.suns o s ((((pk28 : Nat) : Int)) - 4)).1 : Int)), (12, .int .i64 ((Swath.suns o s ((((pk28 : Nat) : Int)) - 4)).2 : Int)), (14, .bool p1), (15, .bool q1), (16, .int .i64 (-o.sl + ((j : Nat) : Int) : Int)), (17, .int .i64 (s.1 + ((i : Nat) : Int) : Int)), (20, .int .i64 (Swath.hgtJ o s ((((pk28 : Nat) : Int)) - 4) j i : Int)), (95, .bool false)]) (by kernel_rfl) (fun L => ?_)
      refine cw_f (by kernel_rfl) ?_
      refine cw_skip ?_
      refine qw_then ?_
      refine cw_seq ?_
      rcases Bool.eq_false_or_eq_true p1 with hp12 | hp12
      ·
        subst hp12
        refine cw_plain ?_
        refine pl_take (.bool true) rfl (by kernel_rfl) (by kernel_rfl) (by kernel_rfl) (by kernel_rfl) ?_
        refine pl_take (.bool true) rfl (by kernel_rfl) (by kernel_rfl) (by kernel_rfl) (by kernel_rfl) ?_
        refine pl_skip rfl (by kernel_rfl) (by kernel_rfl) (by kernel_rfl) ?_
        refine pl_skip rfl (by kernel_rfl) (by kernel_rfl) (by kernel_rfl) ?_
        refine pl_skip rfl (by kernel_rfl) (by kernel_rfl) (by kernel_rfl) ?_
        refine pl_take (.bool true) rfl (by kernel_rfl) (by kernel_rfl) (by kernel_rfl) (by kernel_rfl) ?_
        refine pl_take (.bool true) rfl (by kernel_rfl) (by kernel_rfl) (by kernel_rfl) (by kernel_rfl) ?_
        refine pl_nil ?_
        refine qw_then ?_
        refine cw_clean [7, 8, 9, 10, 11, 12, 14, 15, 16, 17, 20] (ws' := [(7, .bool true), (8, .pointer (some ⟨O13, 0, none⟩)), (9, .pointer (some ⟨O21, 0, none⟩)), (10, .int .i64 ((((pk28 : Nat) : Int)) - 4 : Int)), (11, .int .i64 ((Swath.suns o s ((((pk28 : Nat) : Int)) - 4)).1 : Int)), (12, .int .i64 ((Swath.suns o s ((((pk28 : Nat) : Int)) - 4)).2 : Int)), (14, .bool true), (15, .bool q1), (16, .int .i64 (-o.sl + ((j : Nat) : Int) : Int)), (17, .int .i64 (s.1 + ((i : Nat) : Int) : Int)), (20, .int .i64 (Swath.hgtJ o s ((((pk28 : Nat) : Int)) - 4) j i : Int))]) (by kernel_rfl) (fun L => ?_)
        rcases Bool.eq_false_or_eq_true q1 with hq12 | hq12
        ·
          subst hq12
          refine cw_plain ?_
          refine pl_take (.bool true) rfl (by kernel_rfl) (by kernel_rfl) (by kernel_rfl) (by kernel_rfl) ?_
          refine pl_take (.bool true) rfl (by kernel_rfl) (by kernel_rfl) (by kernel_rfl) (by kernel_rfl) ?_
          refine pl_skip rfl (by kernel_rfl) (by kernel_rfl) (by kernel_rfl) ?_
          refine pl_skip rfl (by kernel_rfl) (by kernel_rfl) (by kernel_rfl) ?_
          refine pl_skip rfl (by kernel_rfl) (by kernel_rfl) (by kernel_rfl) ?_
          refine pl_take (.bool true) rfl (by kernel_rfl) (by kernel_rfl) (by kernel_rfl) (by kernel_rfl) ?_
          refine pl_take (.bool true) rfl (by kernel_rfl) (by kernel_rfl) (by kernel_rfl) (by kernel_rfl) ?_
          refine pl_nil ?_
          refine qw_block ?_
          refine qw_then ?_
          refine cw_clean [7, 8, 9, 10, 11, 12, 14, 15, 16, 17] (ws' := [(7, .bool true), (8, .pointer (some ⟨O13, 0, none⟩)), (9, .pointer (some ⟨O21, 0, none⟩)), (10, .int .i64 ((((pk28 : Nat) : Int)) - 4 : Int)), (11, .int .i64 ((Swath.suns o s ((((pk28 : Nat) : Int)) - 4)).1 : Int)), (12, .int .i64 ((Swath.suns o s ((((pk28 : Nat) : Int)) - 4)).2 : Int)), (14, .bool true), (15, .bool true), (16, .int .i64 (-o.sl + ((j : Nat) : Int) : Int)), (17, .int .i64 (s.1 + ((i : Nat) : Int) : Int))]) (by kernel_rfl) (fun L => ?_)
          refine cw_plain ?_
          refine pl_take (.int .i64 (s.1 + ((i : Nat) : Int) : Int)) rfl (by kernel_rfl) (by kernel_rfl) (by kernel_rfl) (by kernel_rfl) ?_
          refine pl_take (.int .i64 (s.1 + ((i + 1 : Nat) : Int) : Int)) rfl (by kernel_rfl) (by kernel_rfl) (by kernel_rfl) (ev_int (ev_wrap (a := s.1 + ((i : Nat) : Int) + 1) (by kernel_rfl) (by omega) (by omega)) (by omega)) ?_
          refine pl_take (.int .i64 (s.1 + ((i + 1 : Nat) : Int) : Int)) rfl (by kernel_rfl) (by kernel_rfl) (by kernel_rfl) (by kernel_rfl) ?_
          refine pl_nil ?_
          refine qw_round [7, 8, 9, 10, 11, 12, 14, 15, 16, 17] (ws' := [(7, .bool true), (8, .pointer (some ⟨O13, 0, none⟩)), (9, .pointer (some ⟨O21, 0, none⟩)), (10, .int .i64 ((((pk28 : Nat) : Int)) - 4 : Int)), (11, .int .i64 ((Swath.suns o s ((((pk28 : Nat) : Int)) - 4)).1 : Int)), (12, .int .i64 ((Swath.suns o s ((((pk28 : Nat) : Int)) - 4)).2 : Int)), (14, .bool true), (15, .bool true), (16, .int .i64 (-o.sl + ((j : Nat) : Int) : Int)), (17, .int .i64 (s.1 + ((i + 1 : Nat) : Int) : Int))]) (by kernel_rfl) _ ?_ ⟨(i + 1), true, true, rfl, rfl, (Nat.le_trans hs36 (Nat.le_trans hs40 (Nat.le_trans hs43 (Nat.le_trans hs46 hs48)))), hE, hX31, hX35, (by rw [Swath.any_succ, ← Bool.or_assoc, ← hp1]; exact (Bool.true_or _).symm), (by rw [Swath.any_succ, ← Bool.or_assoc, ← hq1]; exact (Bool.true_or _).symm), by omega⟩
          omega
        ·
          subst hq12
          refine cw_plain ?_
          refine pl_take (.bool false) rfl (by kernel_rfl) (by kernel_rfl) (by kernel_rfl) (by kernel_rfl) ?_
          refine pl_take (.bool false) rfl (by kernel_rfl) (by kernel_rfl) (by kernel_rfl) (by kernel_rfl) ?_
          refine pl_take (.int .i64 (Swath.hgtJ o s ((((pk28 : Nat) : Int)) - 4) j i : Int)) rfl (by kernel_rfl) (by kernel_rfl) (by kernel_rfl) (by kernel_rfl) ?_
          refine pl_take (.int .i64 ((Swath.suns o s ((((pk28 : Nat) : Int)) - 4)).2 : Int)) rfl (by kernel_rfl) (by kernel_rfl) (by kernel_rfl) (by kernel_rfl) ?_
          refine pl_take (.bool (decide (Swath.hgtJ o s ((((pk28 : Nat) : Int)) - 4) j i = (Swath.suns o s ((((pk28 : Nat) : Int)) - 4)).2))) rfl (by kernel_rfl) (by kernel_rfl) (by kernel_rfl) (ev_bool (by kernel_rfl) rfl) ?_
          refine pl_take (.bool (decide (Swath.hgtJ o s ((((pk28 : Nat) : Int)) - 4) j i = (Swath.suns o s ((((pk28 : Nat) : Int)) - 4)).2))) rfl (by kernel_rfl) (by kernel_rfl) (by kernel_rfl) (by kernel_rfl) ?_
          refine pl_take (.bool (decide (Swath.hgtJ o s ((((pk28 : Nat) : Int)) - 4) j i = (Swath.suns o s ((((pk28 : Nat) : Int)) - 4)).2))) rfl (by kernel_rfl) (by kernel_rfl) (by kernel_rfl) (by kernel_rfl) ?_
          refine pl_nil ?_
          refine qw_block ?_
          refine qw_then ?_
          refine cw_clean [7, 8, 9, 10, 11, 12, 14, 15, 16, 17] (ws' := [(7, .bool true), (8, .pointer (some ⟨O13, 0, none⟩)), (9, .pointer (some ⟨O21, 0, none⟩)), (10, .int .i64 ((((pk28 : Nat) : Int)) - 4 : Int)), (11, .int .i64 ((Swath.suns o s ((((pk28 : Nat) : Int)) - 4)).1 : Int)), (12, .int .i64 ((Swath.suns o s ((((pk28 : Nat) : Int)) - 4)).2 : Int)), (14, .bool true), (15, .bool (decide (Swath.hgtJ o s ((((pk28 : Nat) : Int)) - 4) j i = (Swath.suns o s ((((pk28 : Nat) : Int)) - 4)).2))), (16, .int .i64 (-o.sl + ((j : Nat) : Int) : Int)), (17, .int .i64 (s.1 + ((i : Nat) : Int) : Int))]) (by kernel_rfl) (fun L => ?_)
          refine cw_plain ?_
          refine pl_take (.int .i64 (s.1 + ((i : Nat) : Int) : Int)) rfl (by kernel_rfl) (by kernel_rfl) (by kernel_rfl) (by kernel_rfl) ?_
          refine pl_take (.int .i64 (s.1 + ((i + 1 : Nat) : Int) : Int)) rfl (by kernel_rfl) (by kernel_rfl) (by kernel_rfl) (ev_int (ev_wrap (a := s.1 + ((i : Nat) : Int) + 1) (by kernel_rfl) (by omega) (by omega)) (by omega)) ?_
          refine pl_take (.int .i64 (s.1 + ((i + 1 : Nat) : Int) : Int)) rfl (by kernel_rfl) (by kernel_rfl) (by kernel_rfl) (by kernel_rfl) ?_
          refine pl_nil ?_
          refine qw_round [7, 8, 9, 10, 11, 12, 14, 15, 16, 17] (ws' := [(7, .bool true), (8, .pointer (some ⟨O13, 0, none⟩)), (9, .pointer (some ⟨O21, 0, none⟩)), (10, .int .i64 ((((pk28 : Nat) : Int)) - 4 : Int)), (11, .int .i64 ((Swath.suns o s ((((pk28 : Nat) : Int)) - 4)).1 : Int)), (12, .int .i64 ((Swath.suns o s ((((pk28 : Nat) : Int)) - 4)).2 : Int)), (14, .bool true), (15, .bool (decide (Swath.hgtJ o s ((((pk28 : Nat) : Int)) - 4) j i = (Swath.suns o s ((((pk28 : Nat) : Int)) - 4)).2))), (16, .int .i64 (-o.sl + ((j : Nat) : Int) : Int)), (17, .int .i64 (s.1 + ((i + 1 : Nat) : Int) : Int))]) (by kernel_rfl) _ ?_ ⟨(i + 1), true, (decide (Swath.hgtJ o s ((((pk28 : Nat) : Int)) - 4) j i = (Swath.suns o s ((((pk28 : Nat) : Int)) - 4)).2)), rfl, rfl, (Nat.le_trans hs36 (Nat.le_trans hs40 (Nat.le_trans hs43 (Nat.le_trans hs46 hs48)))), hE, hX31, hX35, (by rw [Swath.any_succ, ← Bool.or_assoc, ← hp1]; exact (Bool.true_or _).symm), (by rw [Swath.any_succ, ← Bool.or_assoc, ← hq1]; exact (Bool.false_or _).symm), by omega⟩
          omega
      ·
        subst hp12
        refine cw_plain ?_
        refine pl_take (.bool false) rfl (by kernel_rfl) (by kernel_rfl) (by kernel_rfl) (by kernel_rfl) ?_
        refine pl_take (.bool false) rfl (by kernel_rfl) (by kernel_rfl) (by kernel_rfl) (by kernel_rfl) ?_
        refine pl_take (.int .i64 (Swath.hgtJ o s ((((pk28 : Nat) : Int)) - 4) j i : Int)) rfl (by kernel_rfl) (by kernel_rfl) (by kernel_rfl) (by kernel_rfl) ?_
        refine pl_take (.int .i64 ((Swath.suns o s ((((pk28 : Nat) : Int)) - 4)).1 : Int)) rfl (by kernel_rfl) (by kernel_rfl) (by kernel_rfl) (by kernel_rfl) ?_
        refine pl_take (.bool (decide (Swath.hgtJ o s ((((pk28 : Nat) : Int)) - 4) j i = (Swath.suns o s ((((pk28 : Nat) : Int)) - 4)).1))) rfl (by kernel_rfl) (by kernel_rfl) (by kernel_rfl) (ev_bool (by kernel_rfl) rfl) ?_
        refine pl_take (.bool (decide (Swath.hgtJ o s ((((pk28 : Nat) : Int)) - 4) j i = (Swath.suns o s ((((pk28 : Nat) : Int)) - 4)).1))) rfl (by kernel_rfl) (by kernel_rfl) (by kernel_rfl) (by kernel_rfl) ?_
        refine pl_take (.bool (decide (Swath.hgtJ o s ((((pk28 : Nat) : Int)) - 4) j i = (Swath.suns o s ((((pk28 : Nat) : Int)) - 4)).1))) rfl (by kernel_rfl) (by kernel_rfl) (by kernel_rfl) (by kernel_rfl) ?_
        refine pl_nil ?_
        refine qw_then ?_
        refine cw_clean [7, 8, 9, 10, 11, 12, 14, 15, 16, 17, 20] (ws' := [(7, .bool true), (8, .pointer (some ⟨O13, 0, none⟩)), (9, .pointer (some ⟨O21, 0, none⟩)), (10, .int .i64 ((((pk28 : Nat) : Int)) - 4 : Int)), (11, .int .i64 ((Swath.suns o s ((((pk28 : Nat) : Int)) - 4)).1 : Int)), (12, .int .i64 ((Swath.suns o s ((((pk28 : Nat) : Int)) - 4)).2 : Int)), (14, .bool (decide (Swath.hgtJ o s ((((pk28 : Nat) : Int)) - 4) j i = (Swath.suns o s ((((pk28 : Nat) : Int)) - 4)).1))), (15, .bool q1), (16, .int .i64 (-o.sl + ((j : Nat) : Int) : Int)), (17, .int .i64 (s.1 + ((i : Nat) : Int) : Int)), (20, .int .i64 (Swath.hgtJ o s ((((pk28 : Nat) : Int)) - 4) j i : Int))]) (by kernel_rfl) (fun L => ?_)
        rcases Bool.eq_false_or_eq_true q1 with hq12 | hq12
        ·
          subst hq12
          refine cw_plain ?_
          refine pl_take (.bool true) rfl (by kernel_rfl) (by kernel_rfl) (by kernel_rfl) (by kernel_rfl) ?_
          refine pl_take (.bool true) rfl (by kernel_rfl) (by kernel_rfl) (by kernel_rfl) (by kernel_rfl) ?_
          refine pl_skip rfl (by kernel_rfl) (by kernel_rfl) (by kernel_rfl) ?_
          refine pl_skip rfl (by kernel_rfl) (by kernel_rfl) (by kernel_rfl) ?_
          refine pl_skip rfl (by kernel_rfl) (by kernel_rfl) (by kernel_rfl) ?_
          refine pl_take (.bool true) rfl (by kernel_rfl) (by kernel_rfl) (by kernel_rfl) (by kernel_rfl) ?_
          refine pl_take (.bool true) rfl (by kernel_rfl) (by kernel_rfl) (by kernel_rfl) (by kernel_rfl) ?_
          refine pl_nil ?_
          refine qw_block ?_
          refine qw_then ?_
          refine cw_clean [7, 8, 9, 10, 11, 12, 14, 15, 16, 17] (ws' := [(7, .bool true), (8, .pointer (some ⟨O13, 0, none⟩)), (9, .pointer (some ⟨O21, 0, none⟩)), (10, .int .i64 ((((pk28 : Nat) : Int)) - 4 : Int)), (11, .int .i64 ((Swath.suns o s ((((pk28 : Nat) : Int)) - 4)).1 : Int)), (12, .int .i64 ((Swath.suns o s ((((pk28 : Nat) : Int)) - 4)).2 : Int)), (14, .bool (decide (Swath.hgtJ o s ((((pk28 : Nat) : Int)) - 4) j i = (Swath.suns o s ((((pk28 : Nat) : Int)) - 4)).1))), (15, .bool true), (16, .int .i64 (-o.sl + ((j : Nat) : Int) : Int)), (17, .int .i64 (s.1 + ((i : Nat) : Int) : Int))]) (by kernel_rfl) (fun L => ?_)
          refine cw_plain ?_
          refine pl_take (.int .i64 (s.1 + ((i : Nat) : Int) : Int)) rfl (by kernel_rfl) (by kernel_rfl) (by kernel_rfl) (by kernel_rfl) ?_
          refine pl_take (.int .i64 (s.1 + ((i + 1 : Nat) : Int) : Int)) rfl (by kernel_rfl) (by kernel_rfl) (by kernel_rfl) (ev_int (ev_wrap (a := s.1 + ((i : Nat) : Int) + 1) (by kernel_rfl) (by omega) (by omega)) (by omega)) ?_
          refine pl_take (.int .i64 (s.1 + ((i + 1 : Nat) : Int) : Int)) rfl (by kernel_rfl) (by kernel_rfl) (by kernel_rfl) (by kernel_rfl) ?_
          refine pl_nil ?_
          refine qw_round [7, 8, 9, 10, 11, 12, 14, 15, 16, 17] (ws' := [(7, .bool true), (8, .pointer (some ⟨O13, 0, none⟩)), (9, .pointer (some ⟨O21, 0, none⟩)), (10, .int .i64 ((((pk28 : Nat) : Int)) - 4 : Int)), (11, .int .i64 ((Swath.suns o s ((((pk28 : Nat) : Int)) - 4)).1 : Int)), (12, .int .i64 ((Swath.suns o s ((((pk28 : Nat) : Int)) - 4)).2 : Int)), (14, .bool (decide (Swath.hgtJ o s ((((pk28 : Nat) : Int)) - 4) j i = (Swath.suns o s ((((pk28 : Nat) : Int)) - 4)).1))), (15, .bool true), (16, .int .i64 (-o.sl + ((j : Nat) : Int) : Int)), (17, .int .i64 (s.1 + ((i + 1 : Nat) : Int) : Int))]) (by kernel_rfl) _ ?_ ⟨(i + 1), (decide (Swath.hgtJ o s ((((pk28 : Nat) : Int)) - 4) j i = (Swath.suns o s ((((pk28 : Nat) : Int)) - 4)).1)), true, rfl, rfl, (Nat.le_trans hs36 (Nat.le_trans hs40 (Nat.le_trans hs43 (Nat.le_trans hs46 hs48)))), hE, hX31, hX35, (by rw [Swath.any_succ, ← Bool.or_assoc, ← hp1]; exact (Bool.false_or _).symm), (by rw [Swath.any_succ, ← Bool.or_assoc, ← hq1]; exact (Bool.true_or _).symm), by omega⟩
          omega
        ·
          subst hq12
          refine cw_plain ?_
          refine pl_take (.bool false) rfl (by kernel_rfl) (by kernel_rfl) (by kernel_rfl) (by kernel_rfl) ?_
          refine pl_take (.bool false) rfl (by kernel_rfl) (by kernel_rfl) (by kernel_rfl) (by kernel_rfl) ?_
          refine pl_take (.int .i64 (Swath.hgtJ o s ((((pk28 : Nat) : Int)) - 4) j i : Int)) rfl (by kernel_rfl) (by kernel_rfl) (by kernel_rfl) (by kernel_rfl) ?_
          refine pl_take (.int .i64 ((Swath.suns o s ((((pk28 : Nat) : Int)) - 4)).2 : Int)) rfl (by kernel_rfl) (by kernel_rfl) (by kernel_rfl) (by kernel_rfl) ?_
          refine pl_take (.bool (decide (Swath.hgtJ o s ((((pk28 : Nat) : Int)) - 4) j i = (Swath.suns o s ((((pk28 : Nat) : Int)) - 4)).2))) rfl (by kernel_rfl) (by kernel_rfl) (by kernel_rfl) (ev_bool (by kernel_rfl) rfl) ?_
          refine pl_take (.bool (decide (Swath.hgtJ o s ((((pk28 : Nat) : Int)) - 4) j i = (Swath.suns o s ((((pk28 : Nat) : Int)) - 4)).2))) rfl (by kernel_rfl) (by kernel_rfl) (by kernel_rfl) (by kernel_rfl) ?_
          refine pl_take (.bool (decide (Swath.hgtJ o s ((((pk28 : Nat) : Int)) - 4) j i = (Swath.suns o s ((((pk28 : Nat) : Int)) - 4)).2))) rfl (by kernel_rfl) (by kernel_rfl) (by kernel_rfl) (by kernel_rfl) ?_
          refine pl_nil ?_
          refine qw_block ?_
          refine qw_then ?_
          refine cw_clean [7, 8, 9, 10, 11, 12, 14, 15, 16, 17] (ws' := [(7, .bool true), (8, .pointer (some ⟨O13, 0, none⟩)), (9, .pointer (some ⟨O21, 0, none⟩)), (10, .int .i64 ((((pk28 : Nat) : Int)) - 4 : Int)), (11, .int .i64 ((Swath.suns o s ((((pk28 : Nat) : Int)) - 4)).1 : Int)), (12, .int .i64 ((Swath.suns o s ((((pk28 : Nat) : Int)) - 4)).2 : Int)), (14, .bool (decide (Swath.hgtJ o s ((((pk28 : Nat) : Int)) - 4) j i = (Swath.suns o s ((((pk28 : Nat) : Int)) - 4)).1))), (15, .bool (decide (Swath.hgtJ o s ((((pk28 : Nat) : Int)) - 4) j i = (Swath.suns o s ((((pk28 : Nat) : Int)) - 4)).2))), (16, .int .i64 (-o.sl + ((j : Nat) : Int) : Int)), (17, .int .i64 (s.1 + ((i : Nat) : Int) : Int))]) (by kernel_rfl) (fun L => ?_)
          refine cw_plain ?_
          refine pl_take (.int .i64 (s.1 + ((i : Nat) : Int) : Int)) rfl (by kernel_rfl) (by kernel_rfl) (by kernel_rfl) (by kernel_rfl) ?_
          refine pl_take (.int .i64 (s.1 + ((i + 1 : Nat) : Int) : Int)) rfl (by kernel_rfl) (by kernel_rfl) (by kernel_rfl) (ev_int (ev_wrap (a := s.1 + ((i : Nat) : Int) + 1) (by kernel_rfl) (by omega) (by omega)) (by omega)) ?_
          refine pl_take (.int .i64 (s.1 + ((i + 1 : Nat) : Int) : Int)) rfl (by kernel_rfl) (by kernel_rfl) (by kernel_rfl) (by kernel_rfl) ?_
          refine pl_nil ?_
          refine qw_round [7, 8, 9, 10, 11, 12, 14, 15, 16, 17] (ws' := [(7, .bool true), (8, .pointer (some ⟨O13, 0, none⟩)), (9, .pointer (some ⟨O21, 0, none⟩)), (10, .int .i64 ((((pk28 : Nat) : Int)) - 4 : Int)), (11, .int .i64 ((Swath.suns o s ((((pk28 : Nat) : Int)) - 4)).1 : Int)), (12, .int .i64 ((Swath.suns o s ((((pk28 : Nat) : Int)) - 4)).2 : Int)), (14, .bool (decide (Swath.hgtJ o s ((((pk28 : Nat) : Int)) - 4) j i = (Swath.suns o s ((((pk28 : Nat) : Int)) - 4)).1))), (15, .bool (decide (Swath.hgtJ o s ((((pk28 : Nat) : Int)) - 4) j i = (Swath.suns o s ((((pk28 : Nat) : Int)) - 4)).2))), (16, .int .i64 (-o.sl + ((j : Nat) : Int) : Int)), (17, .int .i64 (s.1 + ((i + 1 : Nat) : Int) : Int))]) (by kernel_rfl) _ ?_ ⟨(i + 1), (decide (Swath.hgtJ o s ((((pk28 : Nat) : Int)) - 4) j i = (Swath.suns o s ((((pk28 : Nat) : Int)) - 4)).1)), (decide (Swath.hgtJ o s ((((pk28 : Nat) : Int)) - 4) j i = (Swath.suns o s ((((pk28 : Nat) : Int)) - 4)).2)), rfl, rfl, (Nat.le_trans hs36 (Nat.le_trans hs40 (Nat.le_trans hs43 (Nat.le_trans hs46 hs48)))), hE, hX31, hX35, (by rw [Swath.any_succ, ← Bool.or_assoc, ← hp1]; exact (Bool.false_or _).symm), (by rw [Swath.any_succ, ← Bool.or_assoc, ← hq1]; exact (Bool.false_or _).symm), by omega⟩
          omega
    ·
      have him : i = Swath.mins s := by omega
      refine cw_seq ?_
      refine cw_seq ?_
      refine cw_plain ?_
      refine pl_take (.int .i64 (s.1 + ((i : Nat) : Int) : Int)) rfl (by kernel_rfl) (by kernel_rfl) (by kernel_rfl) (by kernel_rfl) ?_
      refine pl_take (.pointer (some ⟨O21, 1, none⟩)) rfl (by kernel_rfl) (by kernel_rfl) (by kernel_rfl) (by kernel_rfl) ?_
      refine pl_take (.int .i64 (s.2 : Int)) rfl (by kernel_rfl) (by kernel_rfl) (by kernel_rfl) (ex_load rfl (by kernel_rfl) (ld3 ((BoxAt.ext hX31 bO21_1).1))) ?_
      refine pl_take (.bool false) rfl (by kernel_rfl) (by kernel_rfl) (by kernel_rfl) (ev_ndec (show _ = Result.ok (Next.value (Value.bool (decide ((s.1 + ((i : Nat) : Int) : Int) < (s.2 : Int))))) _ from by kernel_rfl) (by omega)) ?_
      refine pl_nil ?_
      refine qw_then ?_
      refine cw_f (by kernel_rfl) ?_
      refine cw_exit ?_
      refine qw_then_exit ?_
      refine qw_then_exit ?_
      refine qw_block_out ?_
      refine qw_block ?_
      refine qw_then ?_
      refine cw_plain ?_
      refine pl_take (.int .i64 (-o.sl + ((j : Nat) : Int) : Int)) rfl (by kernel_rfl) (by kernel_rfl) (by kernel_rfl) (by kernel_rfl) ?_
      refine pl_take (.int .i64 (-o.sl + ((j + 1 : Nat) : Int) : Int)) rfl (by kernel_rfl) (by kernel_rfl) (by kernel_rfl) (ev_int (ev_wrap (a := -o.sl + ((j : Nat) : Int) + 1) (by kernel_rfl) (by omega) (by omega)) (by omega)) ?_
      refine pl_take (.int .i64 (-o.sl + ((j + 1 : Nat) : Int) : Int)) rfl (by kernel_rfl) (by kernel_rfl) (by kernel_rfl) (by kernel_rfl) ?_
      refine pl_nil ?_
      refine qw_round [7, 8, 9, 10, 11, 12, 14, 15, 16] (ws' := [(7, .bool true), (8, .pointer (some ⟨O13, 0, none⟩)), (9, .pointer (some ⟨O21, 0, none⟩)), (10, .int .i64 ((((pk28 : Nat) : Int)) - 4 : Int)), (11, .int .i64 ((Swath.suns o s ((((pk28 : Nat) : Int)) - 4)).1 : Int)), (12, .int .i64 ((Swath.suns o s ((((pk28 : Nat) : Int)) - 4)).2 : Int)), (14, .bool p1), (15, .bool q1), (16, .int .i64 (-o.sl + ((j + 1 : Nat) : Int) : Int))]) (by kernel_rfl) _ ?_ ⟨(j + 1), p1, q1, rfl, rfl, (Nat.le_trans hs32 hs36), hE, hX31, (by rw [Swath.any_succ, hp1, him]), (by rw [Swath.any_succ, hq1, him]), by omega⟩
      omega
  ·
    have hjn : j = Swath.lates o := by omega
    have hp9 : p = true := by rw [hp, hjn]; exact Swath.low_hit hh9 (by omega) (by omega)
    have hq9 : q = true := by rw [hq, hjn]; exact Swath.top_hit hh9 (by omega) (by omega)
    subst hp9; subst hq9
    refine cw_seq ?_
    refine cw_seq ?_
    refine cw_plain ?_
    refine pl_take (.int .i64 (-o.sl + ((j : Nat) : Int) : Int)) rfl (by kernel_rfl) (by kernel_rfl) (by kernel_rfl) (by kernel_rfl) ?_
    refine pl_take (.pointer (some ⟨O13, 6, none⟩)) rfl (by kernel_rfl) (by kernel_rfl) (by kernel_rfl) (by kernel_rfl) ?_
    refine pl_take (.int .i64 (o.sl : Int)) rfl (by kernel_rfl) (by kernel_rfl) (by kernel_rfl) (ex_load rfl (by kernel_rfl) (ld3 ((BoxAt.ext hX31 bO13_6).1))) ?_
    refine pl_take (.bool false) rfl (by kernel_rfl) (by kernel_rfl) (by kernel_rfl) (ev_ndec (show _ = Result.ok (Next.value (Value.bool (decide ((-o.sl + ((j : Nat) : Int) : Int) ≤ (o.sl : Int))))) _ from by kernel_rfl) (by omega)) ?_
    refine pl_nil ?_
    refine qw_then ?_
    refine cw_f (by kernel_rfl) ?_
    refine cw_exit ?_
    refine qw_then_exit ?_
    refine qw_then_exit ?_
    refine qw_block_out ?_
    refine qw_then ?_
    refine cw_seq ?_
    refine cw_plain ?_
    refine pl_take (.bool true) rfl (by kernel_rfl) (by kernel_rfl) (by kernel_rfl) (by kernel_rfl) ?_
    refine pl_take (.bool true) rfl (by kernel_rfl) (by kernel_rfl) (by kernel_rfl) (by kernel_rfl) ?_
    refine pl_take (.bool true) rfl (by kernel_rfl) (by kernel_rfl) (by kernel_rfl) (by kernel_rfl) ?_
    refine pl_take (.bool true) rfl (by kernel_rfl) (by kernel_rfl) (by kernel_rfl) (by kernel_rfl) ?_
    refine pl_take (.bool true) rfl (by kernel_rfl) (by kernel_rfl) (by kernel_rfl) (by kernel_rfl) ?_
    refine pl_take (.bool true) rfl (by kernel_rfl) (by kernel_rfl) (by kernel_rfl) (by kernel_rfl) ?_
    refine pl_take (.bool true) rfl (by kernel_rfl) (by kernel_rfl) (by kernel_rfl) (by kernel_rfl) ?_
    refine pl_take (.bool true) rfl (by kernel_rfl) (by kernel_rfl) (by kernel_rfl) (by kernel_rfl) ?_
    refine pl_nil ?_
    refine qw_then ?_
    refine cw_clean [6] (ws' := [(6, .bool true)]) (by kernel_rfl) (fun L => ?_)
    refine cw_ret ?_
    refine qw_ret [.bool true] rfl ⟨(by kernel_rfl), trivial⟩ ?_
    exact ⟨rfl, hE⟩
theorem SwathSuns_walk (v0 : Value) (op0 : Seven v0) (v1 : Value) (op1 : Pair v1) (lk : Int) (ilk : IsI lk) (w : World) : Calls Try.prog 4 #[v0, v1, .int .i64 lk] w fun e w' => e = .returned (.bool true) ∧ Ext w w' := by
  obtain ⟨x0, x1, x2, x3, x4, x5, x6, rfl, ix0, ix1, ix2, ix3, ix4, ix5, ix6⟩ := op0
  obtain ⟨y0, y1, rfl, iy0, iy1⟩ := op1
  exact SwathSuns_w x0 x1 x2 x3 x4 x5 x6 y0 y1 lk  ix0 ix1 ix2 ix3 ix4 ix5 ix6 iy0 iy1 ilk w

end Go.Proofs.Ytdjjkhefdalokaa

/- The statement SwathSuns: for every input the law returns true, and every argument reads as it read before; the two tables of package math/bits that the row lists are tied to the program's text. -/
namespace Go.Proofs.Ytdjjkhefdalokaa
open Go.ChangeShapes Go.WideShapes Go.ChangeAt Go.RowKit

set_option maxRecDepth 100000 in
theorem SwathSuns_lifted (os : Os) (started : os.Started) (H : Type) (enc : TypeId × Value → H) :
    ReturnsInHanded {} Try.checked os 4 .any (Rows.swathSunsSpec.pre6 enc Try.prog Try.f4 Rows.swathSunsRow.domain false)
      (Rows.swathSunsSpec.post enc Try.prog Try.f4 false true false false) := by
  refine returnsInHanded_of_change_sized (C := Try.checked) own started (by kernel_rfl) Try.func4
    (ChangeSpec.witness6 (enc := enc) (C := Try.checked) false ⟨#[], #[.agg #[.int .i64 0, .int .i64 0, .int .i64 0, .int .i64 0, .int .i64 0, .int .i64 0, .int .i64 0], .agg #[.int .i64 0, .int .i64 0], .int .i64 0], []⟩ 8 (by kernel_rfl) (by kernel_rfl) (by kernel_rfl) (by kernel_rfl)) ?_
  intro W base args ds gs before hval0 hW _ hsz _
  have hval : ∀ (j : Nat) t v, Try.f4.params[j]? = some t → args[j]? = some v → Value.okWide Try.prog W .any base t v := hval0
  have hW' := hW
  obtain ⟨p, q, hA0, hV, rfl, hfz, hnd⟩ := hW
  have hA : DataW.TrodAll enc Try.prog W 0 (fun _ => true) true Try.f4.params.toList args.toList ds p := hA0
  rw [Try.params4] at hA hval
  obtain ⟨v0, vs0, d0, ds0, p0, q0, hargs, rfl, rfl, h0, r0⟩ := trodAll_cons hA
  obtain ⟨v1, vs1, d1, ds1, p1, q1, rfl, rfl, rfl, h1, r1⟩ := trodAll_cons r0
  obtain ⟨v2, vs2, d2, ds2, p2, q2, rfl, rfl, rfl, h2, r2⟩ := trodAll_cons r1
  obtain ⟨rfl, rfl, rfl⟩ := trodAll_nil r2
  obtain rfl : args = #[v0, v1, v2] := by cases args; simp_all
  obtain ⟨rfl, rfl⟩ := trodVars_none hV
  have k0 := h0
  have lt0 : ∀ x ∈ p0, x.block < W.heap.size := by obtain ⟨m, hm⟩ := k0; exact DataW.trod_lt m _ _ _ hm
  have op0 := open_seven (hval 0 _ v0 rfl rfl) h0
  have k1 := h1
  have lt1 : ∀ x ∈ p1, x.block < W.heap.size := by obtain ⟨m, hm⟩ := k1; exact DataW.trod_lt m _ _ _ hm
  have op1 := open_pair (hval 1 _ v1 rfl rfl) h1
  obtain ⟨a2, rfl, rfl, rfl, w2⟩ := open_int Try.underlying3 (hval 2 3 v2 rfl rfl) h2
  clear hA0 hval0
  refine (SwathSuns_walk v0 op0 v1 op1 a2 (isI_of_wf w2) W).mono fun e W' ⟨he, hE⟩ => ?_
  subst he
  have bel : Below W.heap.size W W' := hE
  exact ⟨_, rfl, _, _, _, [], _, [], hW', trodAll_mk1 (shut_bool Try.underlying4 _), (trodAll_cons_mk (Below.trod laidOut (by kernel_rfl) (of_decide_eq_true (by kernel_rfl)) k0 bel lt0) (trodAll_cons_mk (Below.trod laidOut (by kernel_rfl) (of_decide_eq_true (by kernel_rfl)) k1 bel lt1) (trodAll_cons_mk (shut_int Try.underlying3 w2) trodAll_mk0))), rfl, bel.frame _, fun h => by cases h⟩

theorem SwathSuns_over : Rows.SwathSunsSaid :=
  OpenClaim.holds_of_wide 4 Try.f4 rfl rfl rfl rfl rfl rfl rfl ⟨rfl, rfl, rfl, rfl, rfl⟩ rfl rfl rfl rfl rfl (by kernel_rfl) Try.func4 (by kernel_rfl)
    (of_decide_eq_true (by kernel_rfl)) (by unfold Func.isWrapper; first | (rw [if_pos (by decide +kernel)]; kernel_rfl) | (rw [if_neg (by decide +kernel)]; exact ⟨rfl, rfl⟩))
    (fun os started H enc _ => SwathSuns_lifted os started H enc)

theorem SwathSuns_holds : Rows.SwathSunsSaid := SwathSuns_over
#print axioms SwathSuns_holds
end Go.Proofs.Ytdjjkhefdalokaa
