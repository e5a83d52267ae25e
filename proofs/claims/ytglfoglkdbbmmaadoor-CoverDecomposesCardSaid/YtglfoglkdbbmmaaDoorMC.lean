/- Strips: what they leave of an area, its pieces, and the check of pieces. Plain mathematics. -/
import Derived.Test.YtglfoglkdbbmmaaDoorML
namespace Go.Proofs.YtglfoglkdbbmmaaDoor
namespace Globe

/-- A strip: what it shows for sure, and what it can show. -/
def stripOk (s : List Int × List Int) : Bool := validL s.1 && containsB s.2 s.1
def stripsOk (l : List (List Int × List Int)) : Bool := decide (l.length ≤ 24) && l.all stripOk
theorem stripsOk_t {l : List (List Int × List Int)} : stripsOk l = true ↔ l.length ≤ 24 ∧ ∀ s ∈ l, stripOk s = true := by simp [stripsOk]
theorem stripOk_v {s : List Int × List Int} (h : stripOk s = true) : validL s.1 = true ∧ validL s.2 = true ∧ containsB s.2 s.1 = true := by
  simp only [stripOk, Bool.and_eq_true] at h
  refine ⟨h.1, ?_, h.2⟩
  have := h.2
  simp only [containsB, Bool.and_eq_true] at this
  exact this.1.1

/-- What areas, one after the other, leave of an area. -/
def leftL (a : List Int) : List (List Int) → List Int
  | [] => a
  | b :: r => leftL (lessL a b) r
theorem left_snoc : ∀ (l : List (List Int)) (a b : List Int), leftL a (l ++ [b]) = lessL (leftL a l) b
  | [], _, _ => rfl
  | c :: r, a, b => left_snoc r (lessL a c) b
theorem left_valid : ∀ (l : List (List Int)) {a : List Int}, validL a = true → validL (leftL a l) = true
  | [], _, h => h
  | _ :: r, _, h => left_valid r (less_valid h)
theorem has_left {x y : Nat} (hy : y < 24) : ∀ (l : List (List Int)) (a : List Int), hasL (leftL a l) x y = (hasL a x y && l.all fun b => !hasL b x y)
  | [], a => by simp [leftL]
  | b :: r, a => by rw [leftL, has_left hy r, has_less hy, List.all_cons, Bool.and_assoc]
/-- The pieces of an area. -/
def piecesL (a : List Int) : List (List Int) → List (List Int)
  | [] => []
  | b :: r => meetL a b :: piecesL (lessL a b) r
theorem pieces_len : ∀ (l : List (List Int)) (a : List Int), (piecesL a l).length = l.length
  | [], _ => rfl
  | _ :: r, a => by simp [piecesL, pieces_len r]
theorem pieces_snoc : ∀ (l : List (List Int)) (a b : List Int), piecesL a (l ++ [b]) = piecesL a l ++ [meetL (leftL a l) b]
  | [], _, _ => rfl
  | c :: r, a, b => by show meetL a c :: piecesL (lessL a c) (r ++ [b]) = _; rw [pieces_snoc r]; rfl
theorem pieces_valid : ∀ (l : List (List Int)) {a : List Int}, validL a = true → ∀ p ∈ piecesL a l, validL p = true
  | [], _, _, _, hp => by cases hp
  | b :: r, a, h, p, hp => by
    rcases List.mem_cons.1 hp with rfl | hp
    · exact meet_valid h
    · exact pieces_valid r (less_valid h) p hp
/-- Whether pieces are accepted. -/
def checkL (a : List Int) : List (List Int) → List (List Int) → Bool
  | s :: ss, p :: ps => containsB s p && containsB a p && checkL (lessL a p) ss ps
  | [], [] => decide ((cellsTo a 24).length = 0)
  | _, _ => false
theorem contains_v {a b : List Int} (h : containsB a b = true) : validL a = true ∧ validL b = true := by
  simp only [containsB, Bool.and_eq_true] at h; exact h.1
theorem contains_of {a b : List Int} (ha : validL a = true) (hb : validL b = true) (h : ∀ x y, x < 48 → y < 24 → hasL b x y = true → hasL a x y = true) : containsB a b = true := (contains_iff ha hb).2 h
theorem contains_has {a b : List Int} (h : containsB a b = true) {x y : Nat} (hx : x < 48) (hy : y < 24) (hb : hasL b x y = true) : hasL a x y = true :=
  (contains_iff (contains_v h).1 (contains_v h).2).1 h x y hx hy hb
theorem contains_meet_l {a b : List Int} (ha : validL a = true) : containsB a (meetL a b) = true :=
  contains_of ha (meet_valid ha) fun x y _ hy h => by rw [has_meet hy] at h; exact (Bool.and_eq_true_iff.1 h).1
theorem contains_meet_r {a b : List Int} (ha : validL a = true) (hb : validL b = true) : containsB b (meetL a b) = true :=
  contains_of hb (meet_valid ha) fun x y _ hy h => by rw [has_meet hy] at h; exact (Bool.and_eq_true_iff.1 h).2
theorem less_meet {a b : List Int} (ha : validL a = true) : lessL a (meetL a b) = lessL a b :=
  ext_has (less_valid ha) (less_valid ha) fun x y _ hy => by
    rw [has_less hy, has_less hy, has_meet hy]; cases hasL a x y <;> simp
theorem check_own : ∀ (l : List (List Int)) {a : List Int}, validL a = true → (∀ s ∈ l, validL s = true) → checkL a l (piecesL a l) = decide ((cellsTo (leftL a l) 24).length = 0)
  | [], _, _, _ => rfl
  | s :: r, a, ha, hl => by
    rw [piecesL, checkL, contains_meet_l ha, contains_meet_r ha (hl s (by simp)), less_meet ha, check_own r (less_valid ha) (fun t ht => hl t (by simp [ht]))]
    simp [leftL]
theorem zero_iff {l : List Int} (h : validL l = true) : (cellsTo l 24).length = 0 ↔ ∀ x y, x < 48 → y < 24 → hasL l x y = false := by
  rw [count_zero_iff h]
  constructor
  · rintro rfl x y _ _; exact has_zero x y
  · intro hz; exact ext_has h valid_zero fun x y hx hy => by rw [hz x y hx hy, has_zero]
/-- Whatever is accepted covers the area for sure. -/
theorem check_covers : ∀ (l ps : List (List Int)) {a : List Int}, validL a = true → checkL a l ps = true → ∀ x y, x < 48 → y < 24 → hasL a x y = true → l.any (fun s => hasL s x y) = true
  | [], [], a, ha, h, x, y, hx, hy, hh => by
    have := (zero_iff ha).1 (by simpa [checkL] using h) x y hx hy
    rw [this] at hh; cases hh
  | s :: ss, p :: ps, a, ha, h, x, y, hx, hy, hh => by
    simp only [checkL, Bool.and_eq_true] at h
    rw [List.any_cons]
    cases hp : hasL p x y
    · rw [check_covers ss ps (less_valid ha) h.2 x y hx hy (by rw [has_less hy, hh, hp]; rfl)]; simp
    · rw [contains_has h.1.1 hx hy hp]; rfl
  | [], _ :: _, _, _, h, _, _, _, _, _ => by cases h
  | _ :: _, [], _, _, h, _, _, _, _, _ => by cases h
theorem left_zero_of_check {l ps : List (List Int)} {a : List Int} (ha : validL a = true) (h : checkL a l ps = true) : (cellsTo (leftL a l) 24).length = 0 := by
  rw [zero_iff (left_valid l ha)]
  intro x y hx hy
  rw [has_left hy]
  cases hh : hasL a x y
  · rfl
  · have := check_covers l ps ha h x y hx hy hh
    rw [Bool.true_and, Bool.eq_false_iff]
    intro hall
    rw [List.any_eq_true] at this
    obtain ⟨s, hs, e⟩ := this
    have := List.all_eq_true.1 hall s hs
    rw [e] at this; cases this

end Globe
end Go.Proofs.YtglfoglkdbbmmaaDoor
