/- The cells of an area are ascending; the area of them, one after the other. Plain mathematics. -/
import Derived.Test.YtglfoglkdbbmmaaDoorML
namespace Go.Proofs.YtglfoglkdbbmmaaDoor
namespace Globe

def before (p q : Nat × Nat) : Prop := p.2 < q.2 ∨ (p.2 = q.2 ∧ p.1 < q.1)
theorem all_sorted : ∀ n, (allCells n).Pairwise before
  | 0 => List.Pairwise.nil
  | n + 1 => by
    have ih := all_sorted n
    unfold allCells at ih ⊢
    rw [List.range_succ (n := n), List.flatMap_append, List.pairwise_append]
    refine ⟨ih, ?_, ?_⟩
    · simp only [List.flatMap_cons, List.flatMap_nil, List.append_nil]
      rw [List.pairwise_map]
      exact List.pairwise_lt_range.imp fun h => .inr ⟨rfl, h⟩
    · intro p hp q hq
      have h1 := (mem_all (n := n)).1 hp
      simp only [List.flatMap_cons, List.flatMap_nil, List.append_nil, List.mem_map, List.mem_range] at hq
      obtain ⟨x, _, rfl⟩ := hq
      exact .inl h1.2
theorem cells_sorted (l : List Int) (n : Nat) : (cellsTo l n).Pairwise before := by
  rw [cellsTo_filter]; exact (all_sorted n).filter _
theorem cells_before {l : List Int} {i j : Nat} {p q : Nat × Nat} (hij : i < j) (hp : (cellsTo l 24)[i]? = some p) (hq : (cellsTo l 24)[j]? = some q) : before p q := by
  obtain ⟨h1, rfl⟩ := List.getElem?_eq_some_iff.1 hp
  obtain ⟨h2, rfl⟩ := List.getElem?_eq_some_iff.1 hq
  exact List.pairwise_iff_getElem.1 (cells_sorted l 24) i j h1 h2 hij

/-- The area of some cells, one after the other. -/
def outTo (cs : List (Nat × Nat)) : List Int := cs.foldl (fun l p => putL l p.1 p.2) zeroL
theorem outTo_nil : outTo [] = zeroL := rfl
theorem outTo_snoc (cs : List (Nat × Nat)) (p : Nat × Nat) : outTo (cs ++ [p]) = putL (outTo cs) p.1 p.2 := by simp [outTo]
theorem outTo_spec : ∀ n (cs : List (Nat × Nat)), cs.length = n → (∀ p ∈ cs, p.1 < 48 ∧ p.2 < 24) → validL (outTo cs) = true ∧ ∀ x y, hasL (outTo cs) x y = decide ((x, y) ∈ cs)
  | 0, cs, hn, _ => by
    obtain rfl := List.length_eq_zero_iff.1 hn
    exact ⟨valid_zero, fun x y => by rw [outTo_nil, has_zero]; simp⟩
  | n + 1, cs, hn, h => by
    have hne : cs ≠ [] := by intro e; subst e; simp at hn
    obtain ⟨ds, p, rfl⟩ : ∃ ds p, cs = ds ++ [p] := ⟨_, _, (List.dropLast_concat_getLast hne).symm⟩
    have ih := outTo_spec n ds (by simpa using hn) (fun q hq => h q (by simp [hq]))
    have hp := h p (by simp)
    rw [outTo_snoc]
    refine ⟨valid_put ih.1 hp.1, fun x y => ?_⟩
    rw [has_put (by rw [len_of_valid ih.1]; exact hp.2), ih.2, Bool.eq_iff_iff]
    simp only [Bool.or_eq_true, decide_eq_true_eq, Bool.and_eq_true, List.mem_append, List.mem_singleton]
    constructor
    · rintro (h | ⟨rfl, rfl⟩)
      · exact .inl h
      · exact .inr rfl
    · rintro (h | h)
      · exact .inl h
      · exact .inr ⟨(congrArg Prod.fst h).symm, (congrArg Prod.snd h).symm⟩
theorem cells_in {l : List Int} {p : Nat × Nat} (h : p ∈ cellsTo l 24) : p.1 < 48 ∧ p.2 < 24 := ⟨(mem_cells.1 h).2.1, (mem_cells.1 h).1⟩
theorem take_in {l : List Int} (k : Nat) : ∀ p ∈ (cellsTo l 24).take k, p.1 < 48 ∧ p.2 < 24 := fun _ hp => cells_in (List.mem_of_mem_take hp)
theorem outTo_valid (l : List Int) (k : Nat) : validL (outTo ((cellsTo l 24).take k)) = true := (outTo_spec _ _ rfl (take_in k)).1
theorem outTo_all {l : List Int} (h : validL l = true) : outTo (cellsTo l 24) = l := by
  have s := outTo_spec _ (cellsTo l 24) rfl (fun p hp => cells_in hp)
  refine ext_has s.1 h fun x y hx hy => ?_
  rw [s.2, Bool.eq_iff_iff, decide_eq_true_eq, mem_cells]
  exact ⟨fun h => h.2.2, fun h => ⟨hy, hx, h⟩⟩
theorem outTo_new {l : List Int} {k : Nat} {p : Nat × Nat} (hp : (cellsTo l 24)[k]? = some p) : hasL (outTo ((cellsTo l 24).take k)) p.1 p.2 = false := by
  rw [(outTo_spec _ _ rfl (take_in k)).2]
  rw [decide_eq_false_iff_not]
  intro hm
  obtain ⟨i, hi, he⟩ := List.getElem_of_mem hm
  rw [List.length_take] at hi
  rw [List.getElem_take] at he
  have := cells_before (l := l) (i := i) (j := k) (by omega) (List.getElem?_eq_some_iff.2 ⟨by omega, he⟩) hp
  unfold before at this
  simp at this
theorem outTo_next {l : List Int} {k : Nat} {p : Nat × Nat} (hp : (cellsTo l 24)[k]? = some p) : outTo ((cellsTo l 24).take (k + 1)) = putL (outTo ((cellsTo l 24).take k)) p.1 p.2 := by
  obtain ⟨h1, rfl⟩ := List.getElem?_eq_some_iff.1 hp
  rw [List.take_succ_eq_append_getElem h1, outTo_snoc]

end Globe
end Go.Proofs.YtglfoglkdbbmmaaDoor
