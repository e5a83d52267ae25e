/- Ascending lists of indices, in the order in which they are tried, and the first one that is enough. Plain mathematics. -/
import Derived.Test.YtglfoglkdbbmmaaDoorMC
namespace Go.Proofs.YtglfoglkdbbmmaaDoor
namespace Globe

/-- The lists of m further indices below n, from next on. -/
def combs (n : Nat) : Nat → List Nat → Nat → List (List Nat)
  | 0, l, _ => [l]
  | m + 1, l, next => ((List.range (n - m)).drop next).flatMap fun i => combs n m (l ++ [i]) (i + 1)
def asc (n : Nat) : Nat → List Nat → Prop
  | _, [] => True
  | s, i :: r => s ≤ i ∧ i < n ∧ asc n (i + 1) r
theorem range_drop {k i : Nat} (h : i < k) : (List.range k).drop i = i :: (List.range k).drop (i + 1) := by
  rw [List.drop_eq_getElem_cons (by simpa using h)]; simp
theorem range_drop_ge {k i : Nat} (h : k ≤ i) : (List.range k).drop i = [] := by simp [h]
theorem mem_range_drop {k i j : Nat} : j ∈ (List.range k).drop i ↔ i ≤ j ∧ j < k := by
  rw [List.mem_drop_iff_getElem]
  constructor
  · rintro ⟨q, hq, e⟩; simp at hq e; omega
  · rintro ⟨h1, h2⟩; exact ⟨j - i, by simp; omega, by simp; omega⟩
theorem asc_bound {n : Nat} : ∀ {r : List Nat} {s : Nat}, asc n s r → r ≠ [] → s + r.length ≤ n
  | [], _, _, h => absurd rfl h
  | [i], s, ⟨h1, h2, _⟩, _ => by simp; omega
  | i :: j :: r, s, ⟨h1, _, h3⟩, _ => by
    have := asc_bound h3 (by simp)
    simp at this ⊢; omega
theorem mem_combs {n : Nat} : ∀ {m : Nat} {l : List Nat} {next : Nat} {x : List Nat}, x ∈ combs n m l next ↔ ∃ r, x = l ++ r ∧ r.length = m ∧ asc n next r
  | 0, l, next, x => by
    simp only [combs, List.mem_singleton]
    constructor
    · rintro rfl; exact ⟨[], by simp, rfl, trivial⟩
    · rintro ⟨r, rfl, h, _⟩; rw [List.length_eq_zero_iff.1 h, List.append_nil]
  | m + 1, l, next, x => by
    simp only [combs, List.mem_flatMap, mem_range_drop]
    constructor
    · rintro ⟨i, ⟨h1, h2⟩, h3⟩
      obtain ⟨r, rfl, hr, ha⟩ := mem_combs.1 h3
      exact ⟨i :: r, by simp, by simp [hr], h1, by omega, ha⟩
    · rintro ⟨r, rfl, hr, ha⟩
      match r, hr, ha with
      | i :: r, hr, ⟨h1, h2, h3⟩ =>
        simp at hr
        refine ⟨i, ⟨h1, ?_⟩, mem_combs.2 ⟨r, by simp, hr, h3⟩⟩
        cases r with
        | nil => simp at hr; subst hr; omega
        | cons j r => have := asc_bound h3 (by simp); simp at hr this; omega
/-- The first list that is enough: of the fewest indices. -/
def fewestL (p : List Nat → Bool) (n : Nat) : Option (List Nat) := (List.range (n + 1)).findSome? fun k => (combs n k [] 0).find? p
theorem fewest_some {p : List Nat → Bool} {n : Nat} {l : List Nat} (h : fewestL p n = some l) : p l = true ∧ asc n 0 l ∧ l.length ≤ n ∧ ∀ x, asc n 0 x → p x = true → l.length ≤ x.length := by
  obtain ⟨l1, k, l2, hr, hk, hn⟩ := List.findSome?_eq_some_iff.1 h
  have hk' : k < n + 1 := by
    have : k ∈ List.range (n + 1) := by rw [hr]; simp
    simpa using this
  have hp := List.find?_some hk
  obtain ⟨r, e, hlen, ha⟩ := mem_combs.1 (List.mem_of_find?_eq_some hk)
  simp only [List.nil_append] at e
  subst e
  refine ⟨hp, ha, by omega, fun x hx px => ?_⟩
  rcases Nat.lt_or_ge x.length l.length with hlt | hge
  · exfalso
    have hx1 : x.length ∈ l1 := by
      have hi : (List.range (n + 1))[x.length]? = some x.length := List.getElem?_range (by omega)
      have hik : (List.range (n + 1))[l1.length]? = some k := by rw [hr, List.getElem?_append_right (Nat.le_refl _), Nat.sub_self]; rfl
      have hl1 : l1.length = k := by
        have hlen := congrArg List.length hr
        rw [List.length_range, List.length_append, List.length_cons] at hlen
        rw [List.getElem?_range (by omega)] at hik
        exact Option.some.inj hik
      rw [hr, List.getElem?_append_left (by omega)] at hi
      exact List.mem_of_getElem? hi
    have := hn _ hx1
    rw [List.find?_eq_none] at this
    exact this x (mem_combs.2 ⟨x, by simp, rfl, hx⟩) px
  · exact hge
theorem fewest_none {p : List Nat → Bool} {n : Nat} (h : fewestL p n = none) : ∀ x, asc n 0 x → p x = false := by
  intro x hx
  have hx' : x.length ≤ n := by
    cases x with
    | nil => simp
    | cons i r => have := asc_bound hx (by simp); omega
  have := List.findSome?_eq_none_iff.1 h x.length (by simp; omega)
  rw [List.find?_eq_none] at this
  have := this x (mem_combs.2 ⟨x, by simp, rfl, hx⟩)
  simpa using this
theorem fewest_eq {p : List Nat → Bool} {n i : Nat} {x : List Nat} (hi : i ≤ n) (h0 : ∀ j, j < i → (combs n j [] 0).find? p = none) (hx : (combs n i [] 0).find? p = some x) : fewestL p n = some x := by
  unfold fewestL
  rw [List.findSome?_eq_some_iff]
  refine ⟨List.range i, i, (List.range (n + 1)).drop (i + 1), ?_, hx, fun j hj => h0 j (List.mem_range.1 hj)⟩
  rw [← range_drop (show i < n + 1 by omega)]
  have := List.take_append_drop i (List.range (n + 1))
  rwa [List.take_range, Nat.min_eq_left (by omega), eq_comm] at this
theorem fewest_eq_none {p : List Nat → Bool} {n : Nat} (h0 : ∀ j, j < n + 1 → (combs n j [] 0).find? p = none) : fewestL p n = none := by
  unfold fewestL
  rw [List.findSome?_eq_none_iff]
  exact fun j hj => h0 j (List.mem_range.1 hj)
theorem find_prefix {p : List Nat → Bool} {L q : List (List Nat)} {x : List Nat} (h : q ++ [x] <+: L) (hq : ∀ y ∈ q, p y = false) (hx : p x = true) : L.find? p = some x := by
  obtain ⟨r, rfl⟩ := h
  rw [List.append_assoc, List.find?_append]
  have : q.find? p = none := by rw [List.find?_eq_none]; intro y hy; rw [hq y hy]; simp
  rw [this]; simp [hx]
/-- Which lists of strips are enough. -/
def sureAt (ss : List (List Int)) (i : Nat) : List Int := ss[i]?.getD []
def enough (a : List Int) (ss : List (List Int)) (l : List Nat) : Bool := decide ((cellsTo (leftL a (l.map (sureAt ss))) 24).length = 0)
theorem enough_iff {a : List Int} (ha : validL a = true) {ss : List (List Int)} {l : List Nat} : enough a ss l = true ↔ ∀ x y, x < 48 → y < 24 → hasL a x y = true → ∃ i ∈ l, hasL (sureAt ss i) x y = true := by
  unfold enough
  rw [decide_eq_true_iff, zero_iff (left_valid _ ha)]
  constructor
  · intro h x y hx hy hh
    have := h x y hx hy
    rw [has_left hy, hh, Bool.true_and] at this
    rw [List.all_eq_false] at this
    obtain ⟨s, hs, e⟩ := this
    rw [List.mem_map] at hs
    obtain ⟨i, hi, rfl⟩ := hs
    exact ⟨i, hi, by simpa using e⟩
  · intro h x y hx hy
    rw [has_left hy]
    cases hh : hasL a x y
    · rfl
    · obtain ⟨i, hi, e⟩ := h x y hx hy hh
      rw [Bool.true_and, List.all_eq_false]
      exact ⟨sureAt ss i, List.mem_map_of_mem hi, by simp [e]⟩
theorem asc_range (n : Nat) : ∀ (k s : Nat), s + k = n → asc n s ((List.range n).drop s)
  | 0, s, h => by rw [range_drop_ge (by omega)]; trivial
  | k + 1, s, h => by rw [range_drop (by omega)]; exact ⟨Nat.le_refl _, by omega, asc_range n k (s + 1) (by omega)⟩
theorem asc_mono {n : Nat} : ∀ {l : List Nat} {s t : Nat}, asc n s l → t ≤ s → asc n t l
  | [], _, _, _, _ => trivial
  | _ :: _, _, _, ⟨h1, h2, h3⟩, h => ⟨by omega, h2, h3⟩
theorem asc_sub {n : Nat} : ∀ {l r : List Nat} {s : Nat}, asc n s l → List.Sublist r l → asc n s r
  | [], r, _, _, h => by rw [List.sublist_nil.1 h]; trivial
  | i :: l, r, s, ⟨h1, h2, h3⟩, h => by
    rcases List.sublist_cons_iff.1 h with q | ⟨r', rfl, q⟩
    · exact asc_mono (asc_sub h3 q) (by omega)
    · exact ⟨h1, h2, asc_sub h3 q⟩
theorem asc_lt {n : Nat} : ∀ {l : List Nat} {s : Nat}, asc n s l → ∀ i ∈ l, i < n
  | _ :: _, _, ⟨_, h2, h3⟩, i, hi => by
    rcases List.mem_cons.1 hi with rfl | hi
    · exact h2
    · exact asc_lt h3 i hi
theorem asc_step {n : Nat} : ∀ {l : List Nat} {s : Nat}, asc n s l → ∀ k a b, l[k]? = some a → l[k + 1]? = some b → a < b
  | [i], _, _, 0, a, b, _, h => by simp at h
  | i :: j :: r, s, ⟨_, _, h3, _⟩, 0, a, b, ha, hb => by simp at ha hb; omega
  | i :: r, s, ⟨_, _, h3⟩, k + 1, a, b, ha, hb => asc_step h3 k a b (by simpa using ha) (by simpa using hb)
/-- There is a list that is enough just if all strips together are. -/
theorem fewest_isSome {a : List Int} (ha : validL a = true) {ss : List (List Int)} : (fewestL (enough a ss) ss.length).isSome = decide ((cellsTo (leftL a ss) 24).length = 0) := by
  have hall : (List.range ss.length).map (sureAt ss) = ss := by
    refine List.ext_getElem (by simp) fun i h1 h2 => ?_
    simp [sureAt, h2]
  have hfull : enough a ss (List.range ss.length) = decide ((cellsTo (leftL a ss) 24).length = 0) := by unfold enough; rw [hall]
  rw [← hfull]
  cases hq : fewestL (enough a ss) ss.length with
  | none =>
    have := fewest_none hq ((List.range ss.length).drop 0) (asc_range _ ss.length 0 (by omega))
    rw [List.drop_zero] at this
    rw [this]; rfl
  | some l =>
    obtain ⟨h1, h2, _, _⟩ := fewest_some hq
    refine (((enough_iff ha).2 fun x y hx hy hh => ?_)).symm
    obtain ⟨i, hi, e⟩ := (enough_iff ha).1 h1 x y hx hy hh
    exact ⟨i, by simpa using asc_lt h2 i hi, e⟩
/-- A strip that is among the fewest shows something of the area. -/
theorem fewest_needs {a : List Int} (ha : validL a = true) {ss : List (List Int)} {l : List Nat} (h : fewestL (enough a ss) ss.length = some l) {k : Nat} (hk : k < l.length) : (cellsTo (meetL a (sureAt ss l[k])) 24).length ≠ 0 := by
  intro hz
  rw [zero_iff (meet_valid ha)] at hz
  obtain ⟨h1, h2, _, h4⟩ := fewest_some h
  have hx := h4 (l.eraseIdx k) (asc_sub h2 (List.eraseIdx_sublist l k)) ((enough_iff ha).2 fun x y hx hy hh => by
    obtain ⟨i, hi, e⟩ := (enough_iff ha).1 h1 x y hx hy hh
    obtain ⟨j, hj, rfl⟩ := List.getElem_of_mem hi
    by_cases ejk : j = k
    · subst ejk
      have := hz x y hx hy
      rw [has_meet hy, hh, e] at this; cases this
    · refine ⟨l[j], ?_, e⟩
      rw [List.mem_eraseIdx_iff_getElem]
      exact ⟨j, hj, ejk, rfl⟩)
  rw [List.length_eraseIdx_of_lt hk] at hx
  omega

end Globe
end Go.Proofs.YtglfoglkdbbmmaaDoor
