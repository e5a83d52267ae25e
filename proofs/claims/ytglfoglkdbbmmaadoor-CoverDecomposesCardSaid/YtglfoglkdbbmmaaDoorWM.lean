/- Writing into a block of one's own; a valid area that is being made. -/
import Derived.Test.YtglfoglkdbbmmaaDoorW5
namespace Go.Proofs.YtglfoglkdbbmmaaDoor
open Go.RowKit

/-- 2 to the n. -/
def p2 (n : Nat) : Nat := 2 ^ n
theorem p2_shl {n : Nat} (h : n ≤ 48) : IntKind.i64.wrap (2 ^ n) = (p2 n : Int) ∧ 1 ≤ p2 n ∧ p2 n ≤ 281474976710656 := by
  have h1 : 2 ^ n ≤ 2 ^ 48 := Nat.pow_le_pow_right (by decide) h
  have h0 := Nat.two_pow_pos n
  have e : ((2 : Int) ^ n) = ((2 ^ n : Nat) : Int) := by simp
  unfold p2
  refine ⟨?_, h0, h1⟩
  rw [e, IntKind.wrap_i64]
  omega
theorem grown_set {w w' : World} {p : Addr} {v : Value} {B : Nat} (hp : p.block = B) (h : Below (w.setCell p v).heap.size (w.setCell p v) w') : w.grownBy w' (some B) :=
  ⟨h.os, h.tape, h.output, Nat.le_trans (by rw [World.size_setCell]; exact Nat.le_refl _) h.size, fun k hk hne => (h.block k (by rw [World.size_setCell]; exact hk)).trans (Below.heap_setCell _ _ _ k (fun e => hne (by rw [e, hp])))⟩
theorem grown_refl (w : World) (B : Nat) : w.grownBy w (some B) := ⟨rfl, rfl, rfl, Nat.le_refl _, fun _ _ _ => rfl⟩
theorem grown_trans {a b c : World} {r : Option Nat} (h : a.grownBy b r) (k : b.grownBy c r) : a.grownBy c r :=
  ⟨k.os.trans h.os, k.tape.trans h.tape, k.output.trans h.output, Nat.le_trans h.size k.size, fun i hi hne => (k.block i (Nat.lt_of_lt_of_le hi h.size) hne).trans (h.block i hi hne)⟩
/-- What lay below the block that was written reads as it did. -/
theorem Ext.grown {w0 w w' : World} {B : Nat} (h : Ext w0 w) (hg : w.grownBy w' (some B)) (hB : w0.heap.size ≤ B) : Ext w0 w' := Below.grown h hg h.size (fun k e => by cases e; exact hB)
theorem grown_cell {w w' : World} {B : Nat} (hg : w.grownBy w' (some B)) {a : Addr} {v : Value} (h : w.cell? a = some v) (hne : a.block ≠ B) : w'.cell? a = some v := hg.cell h (fun e => hne (by simpa using e))
theorem grown_free {w w' : World} {B : Nat} (hg : w.grownBy w' (some B)) {a : Addr} {v : Value} (h : w.cell? a = some v) (hf : w.frozen? a = false) (hne : a.block ≠ B) : w'.frozen? a = false :=
  (World.frozen?_of_block (hg.block a.block (World.block_lt_of_cell? w a h) (fun e => hne (by simpa using e)))).trans hf
theorem BoxAt.grown {w w' : World} {B : Nat} (hg : w.grownBy w' (some B)) {b o : Nat} {v : Value} (h : BoxAt w b o v) (hne : b ≠ B) : BoxAt w' b o v := ⟨grown_cell hg h.1 hne, grown_free hg h.1 h.2 hne⟩
/-- A fresh valid area. -/
def RetM (w : World) (e : Ending) (w' : World) : Prop :=
  ∃ (B : Nat) (L : List Int), e = .returned (.agg #[.slice (some ⟨B, 0, none⟩) 24 24]) ∧ w.heap.size ≤ B ∧ Globe.validL L = true ∧ RowsAt w' B L ∧ VA w' B 0 L ∧ Ext w w'
/-- In the midst of Made: the area's own block B, its box O. -/
def Mk (w : World) (O B : Nat) (wr : World) : Prop :=
  (∃ L, Globe.validL L = true ∧ RowsAt wr B L) ∧ wr.cell? ⟨O, 0, none⟩ = some (.slice (some ⟨B, 0, none⟩) 24 24) ∧ BoxAt wr w.heap.size 0 (.slice none 0 0) ∧ Ext w wr
theorem Mk.ext {w w1 w2 : World} {O B : Nat} (h : Mk w O B w1) (hE : Ext w1 w2) : Mk w O B w2 :=
  ⟨by obtain ⟨L, hv, hr⟩ := h.1; exact ⟨L, hv, hr.ext hE⟩, hE.cell h.2.1, BoxAt.ext hE h.2.2.1, h.2.2.2.trans hE⟩

end Go.Proofs.YtglfoglkdbbmmaaDoor
