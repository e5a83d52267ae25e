/- What a range over a function wants, in the form in which this seat uses it. -/
import Derived.Test.YtglfoglkdbbmmaaDoorW1
import Derived.RangeFuncNested
import Derived.RangeFuncBound
import Derived.RangeFuncCalls
import Derived.RangeFuncLeaves
import Derived.RangeFuncBox
import Derived.Shelf.Abstract
import Derived.Shelf.RegionOpen
import Derived.OwnWalkIn
import Derived.TacticsInMore
import Derived.LoopNIn
import Derived.LoopIn
import Derived.Deep.RegionHeld3
namespace Go.Proofs.YtglfoglkdbbmmaaDoor
open Go.RowKit

theorem Ext.others {a b : World} (h : Ext a b) : KeepsOthers a b := ⟨h.size, fun k _ ho _ => (Below.block h k (Array.getElem?_eq_some_iff.1 ho).1).trans ho⟩

theorem wide_depth {n : Nat} : Fence.wide.depth.isSome = true → 1 ≤ n := fun h => by simp [Fence.wide] at h

/-- What lies below n₀ lies as it lay, but for the blocks of X (which a round may write). -/
structure KeepX (n₀ : Nat) (X : Nat → Prop) (A B : World) : Prop where
  size : A.heap.size ≤ B.heap.size
  block : ∀ k, k < n₀ → ¬ X k → B.heap[k]? = A.heap[k]?
theorem KeepX.refl (n₀ : Nat) (X : Nat → Prop) (A : World) : KeepX n₀ X A A := ⟨Nat.le_refl _, fun _ _ _ => rfl⟩
theorem KeepX.trans {n₀ : Nat} {X : Nat → Prop} {A B C : World} (h : KeepX n₀ X A B) (k : KeepX n₀ X B C) : KeepX n₀ X A C :=
  ⟨Nat.le_trans h.size k.size, fun i hi hx => (k.block i hi hx).trans (h.block i hi hx)⟩
theorem KeepX.of_below {n₀ : Nat} {X : Nat → Prop} {A B : World} (h : Below n₀ A B) : KeepX n₀ X A B := ⟨h.size, fun k hk _ => h.block k hk⟩
theorem KeepX.of_ext {n₀ : Nat} {X : Nat → Prop} {A B : World} (h : Ext A B) (hn : n₀ ≤ A.heap.size) : KeepX n₀ X A B := KeepX.of_below (Below.mono h hn)
theorem KeepX.cell {n₀ : Nat} {X : Nat → Prop} {A B : World} (h : KeepX n₀ X A B) {b o : Nat} (hb : b < n₀) (hx : ¬ X b) : B.cell? ⟨b, o, none⟩ = A.cell? ⟨b, o, none⟩ := World.cell?_of_block (w := A) (h.block b hb hx)
theorem KeepX.setCell {n₀ : Nat} {X : Nat → Prop} (A : World) {p : Addr} (hp : X p.block) (u : Value) : KeepX n₀ X A (A.setCell p u) :=
  ⟨by simp [World.setCell], fun k _ hx => Below.heap_setCell _ _ _ _ (fun e => hx (e ▸ hp))⟩
theorem KeepX.putObj {n₀ : Nat} {X : Nat → Prop} {w : World} (hn : n₀ ≤ w.heap.size) (W : World) (l : Nat) (o o' : Obj) (hl : w.heap.size ≤ l) (h : W.heap[l]? = some o) (hc : o.isCells = false) (hw : o.isWalk = false) : KeepX n₀ X W (W.putObj l o') :=
  KeepX.of_below (belowK_b hn W l o o' hl h hc hw)

/-- A cell behind the shutting of a loop's block of deferred calls. -/
theorem cell_shut {W : World} {D : Nat} (hK : W.heap[D]? = some (.deferred (some []))) {a : Addr} {v : Value} (h : W.cell? a = some v) : (W.putObj D (.deferred none)).cell? a = some v :=
  cell_kept h (grownBy_putObj' _ D (.deferred none)) (fun r e => by cases e; exact ⟨_, hK, rfl⟩)
theorem Ext.shut {w W : World} {D : Nat} (h : Ext w W) (hD : w.heap.size ≤ D) (hK : W.heap[D]? = some (.deferred (some []))) : Ext w (W.putObj D (.deferred none)) :=
  Below.trans h (belowK_b (w := w) (Nat.le_refl _) W D _ _ hD hK rfl rfl)

end Go.Proofs.YtglfoglkdbbmmaaDoor
