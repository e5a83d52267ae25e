/- An area of one's own in memory: 24 rows that are written in place. -/
import Derived.Test.YtglfoglkdbbmmaaDoorW2
import Derived.Test.YtglfoglkdbbmmaaDoorW3
import Derived.Test.YtglfoglkdbbmmaaDoorMA
namespace Go.Proofs.YtglfoglkdbbmmaaDoor
open Go.RowKit

/-- At block B stand the 24 rows of the list, and may be written. -/
def RowsAt (w : World) (B : Nat) (L : List Int) : Prop := L.length = 24 ∧ (∀ i, i < 24 → w.cell? ⟨B, i, none⟩ = some (.int .i64 (Globe.nth L i))) ∧ ∀ i, i < 24 → w.frozen? ⟨B, i, none⟩ = false
theorem RowsAt.len {w : World} {B : Nat} {L : List Int} (h : RowsAt w B L) : L.length = 24 := h.1
theorem RowsAt.cell {w : World} {B : Nat} {L : List Int} (h : RowsAt w B L) {i : Nat} (hi : i < 24) : w.cell? ⟨B, i, none⟩ = some (.int .i64 (Globe.nth L i)) := h.2.1 i hi
theorem RowsAt.free {w : World} {B : Nat} {L : List Int} (h : RowsAt w B L) {i : Nat} (hi : i < 24) : w.frozen? ⟨B, i, none⟩ = false := h.2.2 i hi
theorem RowsAt.ext {w w' : World} {B : Nat} {L : List Int} (h : RowsAt w B L) (hE : Ext w w') : RowsAt w' B L :=
  ⟨h.1, fun _ hi => hE.cell (h.cell hi), fun _ hi => hE.free (h.cell hi) (h.free hi)⟩
theorem RowsAt.lt {w : World} {B : Nat} {L : List Int} (h : RowsAt w B L) : B < w.heap.size := World.block_lt_of_cell? w _ (h.cell (i := 0) (by omega))
theorem RowsAt.set {w : World} {B : Nat} {L : List Int} (h : RowsAt w B L) {y : Nat} (hy : y < 24) (v : Int) : RowsAt (w.setCell ⟨B, y, none⟩ (.int .i64 v)) B (L.set y v) := by
  refine ⟨by rw [List.length_set]; exact h.1, fun i hi => ?_, fun i hi => ?_⟩
  · rw [Globe.nth_set _ (by rw [h.1]; exact hy)]
    by_cases e : y = i
    · subst e; rw [if_pos rfl]; have := h.cell hy; simp [go_sem, this]
    · rw [if_neg e, ← h.cell hi]
      exact World.cell?_setCell_other w _ _ _ (by intro c; exact e (congrArg Addr.off c))
  · have := h.free hi; simpa [go_sem] using this
theorem RowsAt.ints {w : World} {B : Nat} {L : List Int} (h : RowsAt w B L) : ∀ i, i < L.length → w.cell? ⟨B, 0 + i, none⟩ = some (.int .i64 (Globe.nth L i)) := fun i hi => by
  rw [Nat.zero_add]; exact h.cell (by rw [← h.1]; exact hi)
theorem RowsAt.new (w : World) (L : List Int) (t : TypeId) (hl : L.length = 24) : RowsAt (w.alloc (.cells (L.map (Value.int .i64)).toArray t)) w.heap.size L := by
  refine ⟨hl, fun i hi => ?_, fun i hi => by simp [go_sem]⟩
  have := new_ints w L t i (by omega)
  rwa [Nat.zero_add] at this

/-- 1 << x. -/
theorem shl_one (x : Nat) (h : x < 48) : wrap64 (1 * 2 ^ x) = ((2 ^ x : Nat) : Int) := by
  have : (2 ^ x : Nat) < 2 ^ 48 := Nat.pow_lt_pow_right (by decide) h
  have e : ((2 : Int) ^ x) = ((2 ^ x : Nat) : Int) := by simp
  rw [Int.one_mul, e]
  generalize (2 ^ x : Nat) = k at *
  exact IntWalk.wrap64_in _ ⟨by omega, by omega⟩

end Go.Proofs.YtglfoglkdbbmmaaDoor
