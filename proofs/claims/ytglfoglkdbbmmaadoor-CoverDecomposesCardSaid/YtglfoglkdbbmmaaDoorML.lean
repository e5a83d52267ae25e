/- How many cells an area has; distances of cells. Plain mathematics. -/
import Derived.Test.YtglfoglkdbbmmaaDoorMB
namespace Go.Proofs.YtglfoglkdbbmmaaDoor
namespace Globe

def allCells (n : Nat) : List (Nat × Nat) := (List.range n).flatMap fun y => (List.range 48).map fun x => (x, y)
theorem cellsTo_filter (l : List Int) (n : Nat) : cellsTo l n = (allCells n).filter fun p => hasL l p.1 p.2 := by
  unfold cellsTo allCells
  rw [List.filter_flatMap]
  congr 1
  funext y
  unfold rowCells bitsN
  rw [List.filter_map]
  rfl
theorem mem_all {n : Nat} {p : Nat × Nat} : p ∈ allCells n ↔ p.1 < 48 ∧ p.2 < n := by
  obtain ⟨x, y⟩ := p
  simp only [allCells, List.mem_flatMap, List.mem_range, List.mem_map, Prod.mk.injEq]
  constructor
  · rintro ⟨y', hy, x', hx, rfl, rfl⟩; exact ⟨hx, hy⟩
  · rintro ⟨hx, hy⟩; exact ⟨y, hy, x, hx, rfl, rfl⟩
theorem count_eq (l : List Int) (n : Nat) : (cellsTo l n).length = (allCells n).countP fun p => hasL l p.1 p.2 := by
  rw [cellsTo_filter, List.countP_eq_length_filter]
theorem countP_incl {α : Type} (p q : α → Bool) (l : List α) : (l.countP fun a => p a || q a) + (l.countP fun a => p a && q a) = l.countP p + l.countP q := by
  induction l with
  | nil => rfl
  | cons a l ih =>
    simp only [List.countP_cons]
    cases p a <;> cases q a <;> simp <;> omega
theorem countP_diff {α : Type} (p q : α → Bool) (l : List α) : (l.countP fun a => p a && !q a) + (l.countP fun a => p a && q a) = l.countP p := by
  induction l with
  | nil => rfl
  | cons a l ih =>
    simp only [List.countP_cons]
    cases p a <;> cases q a <;> simp <;> omega
theorem countP_congr' {α : Type} {p q : α → Bool} {l : List α} (h : ∀ a ∈ l, p a = q a) : l.countP p = l.countP q := by
  rw [List.countP_eq_length_filter, List.countP_eq_length_filter, List.filter_congr h]
theorem count_congr {a : List Int} {q : Nat × Nat → Bool} (h : ∀ x y, x < 48 → y < 24 → hasL a x y = q (x, y)) : (cellsTo a 24).length = (allCells 24).countP q := by
  rw [count_eq]
  exact countP_congr' fun p hp => h p.1 p.2 (mem_all.1 hp).1 (mem_all.1 hp).2
theorem count_union (a b : List Int) : (cellsTo (unionL a b) 24).length + (cellsTo (meetL a b) 24).length = (cellsTo a 24).length + (cellsTo b 24).length := by
  rw [count_congr (a := unionL a b) (q := fun p => hasL a p.1 p.2 || hasL b p.1 p.2) fun x y _ hy => has_union hy,
    count_congr (a := meetL a b) (q := fun p => hasL a p.1 p.2 && hasL b p.1 p.2) fun x y _ hy => has_meet hy, countP_incl, count_eq, count_eq]
theorem count_less (a b : List Int) : (cellsTo (lessL a b) 24).length + (cellsTo (meetL a b) 24).length = (cellsTo a 24).length := by
  rw [count_congr (a := lessL a b) (q := fun p => hasL a p.1 p.2 && !hasL b p.1 p.2) fun x y _ hy => has_less hy,
    count_congr (a := meetL a b) (q := fun p => hasL a p.1 p.2 && hasL b p.1 p.2) fun x y _ hy => has_meet hy, countP_diff, count_eq]

/-- The empty area. -/
theorem count_zero_iff {l : List Int} (h : validL l = true) : (cellsTo l 24).length = 0 ↔ l = zeroL := by
  constructor
  · intro e
    have e' : cellsTo l 24 = [] := List.length_eq_zero_iff.1 e
    refine ext_has h valid_zero fun x y hx hy => ?_
    rw [has_zero]
    cases hh : hasL l x y
    · rfl
    · have := (mem_cells (n := 24) (p := (x, y))).2 ⟨hy, hx, hh⟩
      rw [e'] at this
      cases this
  · rintro rfl
    rw [count_eq]
    rw [List.countP_eq_zero]
    intro p _
    rw [has_zero]; simp

/-- Whether an area has all cells of another one. -/
def containsB (a b : List Int) : Bool := validL a && validL b && decide (lessL b a = zeroL)
theorem contains_iff {a b : List Int} (ha : validL a = true) (hb : validL b = true) : containsB a b = true ↔ ∀ x y, x < 48 → y < 24 → hasL b x y = true → hasL a x y = true := by
  unfold containsB
  rw [ha, hb]
  simp only [Bool.true_and, decide_eq_true_eq]
  constructor
  · intro e x y hx hy h
    have := has_less (a := b) (b := a) (x := x) hy
    rw [e, has_zero, h] at this
    simpa using this
  · intro h
    refine ext_has (less_valid hb) valid_zero fun x y hx hy => ?_
    rw [has_zero, has_less hy]
    cases hh : hasL b x y
    · rfl
    · rw [h x y hx hy hh]; rfl
theorem contains_count {a b : List Int} (ha : validL a = true) (hb : validL b = true) : containsB a b = decide ((cellsTo (meetL a b) 24).length = (cellsTo b 24).length) := by
  have h1 := count_less b a
  have h2 : (cellsTo (meetL b a) 24).length = (cellsTo (meetL a b) 24).length := by
    rw [count_congr (a := meetL b a) (q := fun p => hasL a p.1 p.2 && hasL b p.1 p.2) fun x y _ hy => by rw [has_meet hy, Bool.and_comm],
      count_congr (a := meetL a b) (q := fun p => hasL a p.1 p.2 && hasL b p.1 p.2) fun x y _ hy => has_meet hy]
  have h3 := count_zero_iff (less_valid (b := a) hb)
  unfold containsB
  rw [ha, hb, Bool.true_and, Bool.true_and, Bool.eq_iff_iff, decide_eq_true_eq, decide_eq_true_eq, ← h3]
  omega

/-! Shifting keeps the number of cells. -/
theorem rot_map {k : Nat} (hk : k < 48) : (List.range 48).map (fun x => (x + 48 - k) % 48) = (List.range k).map (48 - k + ·) ++ List.range (48 - k) := by
  have e : List.range 48 = List.range k ++ (List.range (48 - k)).map (k + ·) := by rw [← List.range_add]; congr 1; omega
  rw [e, List.map_append, List.map_map]
  congr 1
  · exact List.map_congr_left fun x hx => by have := List.mem_range.1 hx; omega
  · conv => rhs; rw [← List.map_id (List.range (48 - k))]
    exact List.map_congr_left fun x hx => by have := List.mem_range.1 hx; simp only [Function.comp, id]; omega
theorem countP_rot (q : Nat → Bool) {k : Nat} (hk : k < 48) : ((List.range 48).countP fun x => q ((x + 48 - k) % 48)) = (List.range 48).countP q := by
  have e1 : ((List.range 48).countP fun x => q ((x + 48 - k) % 48)) = ((List.range 48).map (fun x => (x + 48 - k) % 48)).countP q := by rw [List.countP_map]; rfl
  have e2 : List.range 48 = List.range (48 - k) ++ (List.range k).map (48 - k + ·) := by rw [← List.range_add]; congr 1; omega
  rw [e1, rot_map hk]
  conv => rhs; rw [e2]
  rw [List.countP_append, List.countP_append]
  omega
theorem countP_all (q : Nat × Nat → Bool) : ∀ n, (allCells n).countP q = ((List.range n).map fun y => (List.range 48).countP fun x => q (x, y)).sum
  | 0 => rfl
  | n + 1 => by
    have := countP_all q n
    unfold allCells at this ⊢
    rw [List.range_succ (n := n), List.flatMap_append, List.countP_append, this, List.map_append, List.sum_append]
    simp [List.countP_map, Function.comp_def]
theorem count_shift {l : List Int} (hl : validL l = true) {k : Nat} (hk : k < 48) : (cellsTo (shiftL l k) 24).length = (cellsTo l 24).length := by
  rw [count_congr (a := shiftL l k) (q := fun p => hasL l ((p.1 + 48 - k) % 48) p.2) fun x y hx hy => has_shift hl hk hx hy, count_eq, countP_all, countP_all]
  congr 1
  exact List.map_congr_left fun y _ => countP_rot (fun x => hasL l x y) hk

/-- How many numbers below n are less than w. -/
theorem countP_lt (w : Nat) : ∀ n, ((List.range n).countP fun x => decide (x < w)) = min w n
  | 0 => by simp
  | n + 1 => by
    rw [List.range_succ, List.countP_append, countP_lt w n]
    by_cases h : n < w
    · simp [h]; omega
    · simp [h]; omega
theorem sum_from (c w : Nat) : ∀ (n cy h : Nat), cy + h ≤ n → ((List.range n).map fun y => if cy ≤ y ∧ y < cy + h then w else 0).sum = w * h
  | 0, cy, h, e => by
    obtain rfl : h = 0 := by omega
    simp
  | n + 1, cy, h, e => by
    rw [List.range_succ, List.map_append, List.sum_append]
    by_cases e2 : cy + h ≤ n
    · rw [sum_from c w n cy h e2]
      simp only [List.map_cons, List.map_nil, List.sum_cons, List.sum_nil]
      rw [if_neg (by omega)]; omega
    · cases h with
      | zero =>
        have : ∀ y, (if cy ≤ y ∧ y < cy + 0 then w else 0) = 0 := fun y => if_neg (by omega)
        simp only [this]
        have z : ∀ m : Nat, ((List.range m).map fun _ => 0).sum = 0 := fun m => by induction m with
          | zero => rfl
          | succ m ih => rw [List.range_succ, List.map_append, List.sum_append, ih]; rfl
        rw [z]; simp
      | succ h =>
        have e3 : cy + h = n := by omega
        have e4 : ((List.range n).map fun y => if cy ≤ y ∧ y < cy + (h + 1) then w else 0) = ((List.range n).map fun y => if cy ≤ y ∧ y < cy + h then w else 0) :=
          List.map_congr_left fun y hy => by
            have := List.mem_range.1 hy
            by_cases c : cy ≤ y
            · rw [if_pos ⟨c, by omega⟩, if_pos ⟨c, by omega⟩]
            · rw [if_neg (by omega), if_neg (by omega)]
        rw [e4, sum_from c w n cy h (by omega)]
        simp only [List.map_cons, List.map_nil, List.sum_cons, List.sum_nil]
        rw [if_pos (by omega), Nat.mul_succ]; omega
theorem count_box {cx cy wide high : Nat} (hc : cx < 48) (hw : wide ≤ 48) (hh : cy + high ≤ 24) : (cellsTo (boxL cx cy wide high) 24).length = wide * high := by
  rw [count_congr (a := boxL cx cy wide high) (q := fun p => decide (cy ≤ p.2 ∧ p.2 < cy + high) && decide ((p.1 + 48 - cx) % 48 < wide)) fun x y hx hy => has_box hc hw hx hy, countP_all]
  rw [← sum_from 0 wide 24 cy high hh]
  congr 1
  refine List.map_congr_left fun y _ => ?_
  dsimp only
  by_cases e : cy ≤ y ∧ y < cy + high
  · rw [if_pos e]
    have := countP_rot (fun x => decide (x < wide)) hc
    rw [countP_lt] at this
    rw [Nat.min_eq_left hw] at this
    rw [show (fun p => decide (cy ≤ y ∧ y < cy + high) && decide ((p + 48 - cx) % 48 < wide)) = fun p => decide ((p + 48 - cx) % 48 < wide) from funext fun p => by simp [e]]
    exact this
  · rw [if_neg e, List.countP_eq_zero]
    intro x _
    simp only [Bool.and_eq_true, decide_eq_true_eq]
    exact fun h => e h.1

end Globe
end Go.Proofs.YtglfoglkdbbmmaaDoor
