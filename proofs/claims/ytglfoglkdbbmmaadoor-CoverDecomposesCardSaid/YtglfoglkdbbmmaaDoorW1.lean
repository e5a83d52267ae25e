/- Small lemmas that every walk of this seat uses: what a world that has only grown keeps. -/
import Derived.Test.YtglfoglkdbbmmaaDoorProg
import Derived.WalkKit
import Derived.WalkSpells
import Derived.WalkLawsBesides
import Derived.Handy
import Derived.Laws.EntriesVeiled
import Derived.Lib.Hide
import Derived.Deep.QuietTactic
import Derived.BigQuiet
import Derived.Deep.RegionHeld3
namespace Go.Proofs.YtglfoglkdbbmmaaDoor
open Go.RowKit

theorem ret_int {k : IntKind} {a b : Int} (h : a = b) : Ending.returned (.int k a) = .returned (.int k b) := by rw [h]
theorem ret2_int {k : IntKind} {a b : Int} {v : Value} (h : a = b) : Ending.returned (.tuple #[.int k a, v]) = .returned (.tuple #[.int k b, v]) := by rw [h]
theorem ret_bool {a b : Bool} (h : a = b) : Ending.returned (.bool a) = .returned (.bool b) := by rw [h]

/-- A world under a name, with what is wanted of it. -/
theorem wp_name {P : Program} {c : Code} {Q : Exit → Act → World → Prop} {a : Act} {W : World} (S : World → Prop) (hS : S W) (h : ∀ V, S V → c.wp P Q a V) : c.wp P Q a W := h W hS

theorem calls_name {P : Program} {f : FuncId} {args : Array Value} {R : Ending → World → Prop} {W : World} (S : World → Prop) (hS : S W) (h : ∀ V, S V → Calls P f args V R) : Calls P f args W R := h W hS

/-- A piece of code that may be gone through in several orders, all of which end in one frame F. -/
theorem wp_merge {P : Program} {c : Code} {Q : Exit → Act → World → Prop} {a : Act} {W : World} (R : World → Prop) (F : Act) (h1 : c.wp P (fun e a' w' => e = .normal ∧ a' = F ∧ R w') a W) (h2 : ∀ w', R w' → Q .normal F w') : c.wp P Q a W :=
  wp_mono h1 (by rintro e a w ⟨rfl, rfl, h⟩; exact h2 _ h)

/-- The world has grown: nothing that was there has turned. -/
def Ext (w w' : World) : Prop := Below w.heap.size w w'
theorem Ext.refl (w : World) : Ext w w := Below.refl _ _
theorem Ext.trans {a b c : World} (h : Ext a b) (k : Ext b c) : Ext a c := Below.trans h (Below.mono k (Below.size h))
theorem Ext.alloc {a b : World} (h : Ext a b) (o : Obj) : Ext a (b.alloc o) := Below.alloc h (Below.size h) o
theorem Ext.drew {a b : World} (h : Ext a b) : Ext a b.drew := Below.drew h
theorem Ext.drewN {a b : World} (h : Ext a b) (n : Nat) : Ext a (b.drewN n) := Below.trans h ⟨rfl, rfl, rfl, Nat.le_refl _, fun _ _ => rfl⟩
theorem Ext.setCell {a b : World} (h : Ext a b) {p : Addr} (hp : a.heap.size ≤ p.block) (u : Value) : Ext a (b.setCell p u) := Below.setCell h hp u
theorem Ext.size {a b : World} (h : Ext a b) : a.heap.size ≤ b.heap.size := Below.size h
theorem Ext.below {a b : World} (h : Ext a b) : Below a.heap.size a b := h
/-- What lay in W reads in w1 as it did. The premise says 'b < W.heap.size' in a form that the walk's own procedure on addresses decides by omega. -/
theorem Ext.cellE {W w1 : World} (hb : Ext W w1) : ∀ b o, (⟨b + 1 - W.heap.size, 0, none⟩ : Addr) = ⟨0, 0, none⟩ → w1.cell? ⟨b, o, none⟩ = W.cell? ⟨b, o, none⟩ := fun b o h => Below.cell hb (p := ⟨b, o, none⟩) (by simp at h; show b < W.heap.size; omega)
theorem Ext.frozenE {W w1 : World} (hb : Ext W w1) : ∀ b o, (⟨b + 1 - W.heap.size, 0, none⟩ : Addr) = ⟨0, 0, none⟩ → w1.frozen? ⟨b, o, none⟩ = W.frozen? ⟨b, o, none⟩ := fun b o h => Below.frozen hb (p := ⟨b, o, none⟩) (by simp at h; show b < W.heap.size; omega)
theorem Ext.cell {W w1 : World} (hb : Ext W w1) {a : Addr} {v : Value} (h : W.cell? a = some v) : w1.cell? a = some v := by
  rw [Below.cell hb (World.block_lt_of_cell? W a h)]; exact h

theorem Ext.free {W w1 : World} (hb : Ext W w1) {a : Addr} {v : Value} (h : W.cell? a = some v) (hf : W.frozen? a = false) : w1.frozen? a = false := by
  rw [Below.frozen hb (World.block_lt_of_cell? W a h)]; exact hf

theorem lt_of_addr {b n : Nat} (h : (⟨b + 1 - n, 0, none⟩ : Addr) = ⟨0, 0, none⟩) : b < n := by simp at h; omega
/-- New blocks change no old cell: the rules that the walk wants of a world that is a name. -/
theorem alloc_keeps (w : World) :
    (∀ o1 b o, (⟨b + 1 - w.heap.size, 0, none⟩ : Addr) = ⟨0, 0, none⟩ → (w.alloc o1).cell? ⟨b, o, none⟩ = w.cell? ⟨b, o, none⟩) ∧
    (∀ o1 b o, (⟨b + 1 - w.heap.size, 0, none⟩ : Addr) = ⟨0, 0, none⟩ → (w.alloc o1).frozen? ⟨b, o, none⟩ = w.frozen? ⟨b, o, none⟩) ∧
    (∀ o1 o2 b o, (⟨b + 1 - w.heap.size, 0, none⟩ : Addr) = ⟨0, 0, none⟩ → ((w.alloc o1).alloc o2).cell? ⟨b, o, none⟩ = w.cell? ⟨b, o, none⟩) ∧
    (∀ o1 o2 b o, (⟨b + 1 - w.heap.size, 0, none⟩ : Addr) = ⟨0, 0, none⟩ → ((w.alloc o1).alloc o2).frozen? ⟨b, o, none⟩ = w.frozen? ⟨b, o, none⟩) ∧
    (∀ o1 o2 o3 b o, (⟨b + 1 - w.heap.size, 0, none⟩ : Addr) = ⟨0, 0, none⟩ → (((w.alloc o1).alloc o2).alloc o3).cell? ⟨b, o, none⟩ = w.cell? ⟨b, o, none⟩) ∧
    (∀ o1 o2 o3 b o, (⟨b + 1 - w.heap.size, 0, none⟩ : Addr) = ⟨0, 0, none⟩ → (((w.alloc o1).alloc o2).alloc o3).frozen? ⟨b, o, none⟩ = w.frozen? ⟨b, o, none⟩) ∧
    (∀ o1 o2 o3 o4 b o, (⟨b + 1 - w.heap.size, 0, none⟩ : Addr) = ⟨0, 0, none⟩ → ((((w.alloc o1).alloc o2).alloc o3).alloc o4).cell? ⟨b, o, none⟩ = w.cell? ⟨b, o, none⟩) ∧
    (∀ o1 o2 o3 o4 b o, (⟨b + 1 - w.heap.size, 0, none⟩ : Addr) = ⟨0, 0, none⟩ → ((((w.alloc o1).alloc o2).alloc o3).alloc o4).frozen? ⟨b, o, none⟩ = w.frozen? ⟨b, o, none⟩) ∧
    (∀ o1 o2 o3 o4 o5 b o, (⟨b + 1 - w.heap.size, 0, none⟩ : Addr) = ⟨0, 0, none⟩ → (((((w.alloc o1).alloc o2).alloc o3).alloc o4).alloc o5).cell? ⟨b, o, none⟩ = w.cell? ⟨b, o, none⟩) ∧
    (∀ o1 o2 o3 o4 o5 b o, (⟨b + 1 - w.heap.size, 0, none⟩ : Addr) = ⟨0, 0, none⟩ → (((((w.alloc o1).alloc o2).alloc o3).alloc o4).alloc o5).frozen? ⟨b, o, none⟩ = w.frozen? ⟨b, o, none⟩) := by
  have e : ∀ (W : World) (h : Ext w W) (b o : Nat), b < w.heap.size → W.cell? ⟨b, o, none⟩ = w.cell? ⟨b, o, none⟩ ∧ W.frozen? ⟨b, o, none⟩ = w.frozen? ⟨b, o, none⟩ :=
    fun W h b o hb => ⟨Below.cell h (p := ⟨b, o, none⟩) hb, Below.frozen h (p := ⟨b, o, none⟩) hb⟩
  refine ⟨?_, ?_, ?_, ?_, ?_, ?_, ?_, ?_, ?_, ?_⟩ <;> intros <;> rename_i h <;> first
    | exact (e _ (by repeat' (first | exact Ext.refl _ | refine Ext.alloc ?_ _)) _ _ (lt_of_addr h)).1
    | exact (e _ (by repeat' (first | exact Ext.refl _ | refine Ext.alloc ?_ _)) _ _ (lt_of_addr h)).2

end Go.Proofs.YtglfoglkdbbmmaaDoor
