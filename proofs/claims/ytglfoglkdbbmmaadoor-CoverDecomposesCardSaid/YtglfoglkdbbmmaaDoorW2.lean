/- A slice of ints that reads as a list. -/
import Derived.Test.YtglfoglkdbbmmaaDoorW1
import Derived.Test.YtglfoglkdbbmmaaDoorMG
namespace Go.Proofs.YtglfoglkdbbmmaaDoor
open Go.RowKit

/-- At the address a (if there is one) the world w holds the ints l, one behind the other. -/
def IntsAt (w : World) (a : Option Addr) (l : List Int) : Prop :=
  l = [] ∨ ∃ b off, a = some ⟨b, off, none⟩ ∧ ∀ i, i < l.length → w.cell? ⟨b, off + i, none⟩ = some (.int .i64 (Globe.nth l i))
theorem IntsAt.ext {w w' : World} {a : Option Addr} {l : List Int} (h : IntsAt w a l) (hE : Ext w w') : IntsAt w' a l := by
  rcases h with h | ⟨b, off, rfl, h⟩
  · exact .inl h
  · exact .inr ⟨b, off, rfl, fun i hi => hE.cell (h i hi)⟩

/-- 'make([]int, 24)'. -/
theorem make24 (w : World) : (Instr.makeSlice 23 (.int .i64 24) (.int .i64 24)).run Tryd.prog w = .ok (.slice (some ⟨w.heap.size, 0, none⟩) 24 24) (w.alloc (.cells #[.int .i64 0, .int .i64 0, .int .i64 0, .int .i64 0, .int .i64 0, .int .i64 0, .int .i64 0, .int .i64 0, .int .i64 0, .int .i64 0, .int .i64 0, .int .i64 0, .int .i64 0, .int .i64 0, .int .i64 0, .int .i64 0, .int .i64 0, .int .i64 0, .int .i64 0, .int .i64 0, .int .i64 0, .int .i64 0, .int .i64 0, .int .i64 0] 3)) := by kernel_rfl

/-- A new block of ints reads as the list. -/
theorem new_ints (w : World) (l : List Int) (t : TypeId) : ∀ i, i < l.length → (w.alloc (.cells (l.map (Value.int .i64)).toArray t)).cell? ⟨w.heap.size, 0 + i, none⟩ = some (.int .i64 (Globe.nth l i)) := by
  intro i hi
  rw [Nat.zero_add]
  rw [cell_of_row _ _ i _ t (0, 0) (heap_alloc_new w _)]
  simp [Globe.nth, hi]

end Go.Proofs.YtglfoglkdbbmmaaDoor
