/- Part 1 of what the proof of MemoryMatchesReference stands on. -/
import Derived.Test.YtnbjjddfcondlaaProg
import Derived.WalkKit
import Derived.WalkSpells
import Derived.WalkLawsBesides
import Derived.Handy
import Derived.Laws.EntriesVeiled
import Derived.Lib.Hide
import Derived.Deep.QuietTactic
import Derived.BigQuiet
import Derived.Deep.RegionHeld3
import Derived.Lib.TrailingZeros
import Derived.Scope
import Derived.RangeFuncOwn
import Derived.Shelf.SlSortCmp.WholeK
import Derived.Shelf.Lay
import Derived.Ground.SlsfProg
import Derived.Shelf.SlGeneric
import Derived.Shelf.Sort.Plain
import Derived.Shelf.Slices.In.SortNone
import Derived.Ground.SlgnProg
import Derived.Ground.Names2Prog
import Derived.OwnWalk
import Derived.Maps.AppendAt
import Derived.RangeFuncNested
import Derived.RangeFuncBound
import Derived.RangeFuncCalls
import Derived.RangeFuncLeaves
import Derived.RangeFuncBox
import Derived.Shelf.Abstract
import Derived.Shelf.RegionOpen
import Derived.OwnWalkIn
import Derived.TacticsInMore
import Derived.LoopNIn
import Derived.LoopIn
import Derived.OrdersIn
import Derived.TacticsIn
/- Small lemmas that every walk of this seat uses: what a world that has only grown keeps. -/
namespace Go.Proofs.Ytnbjjddfcondlaa
open Go.RowKit

theorem ret_int {k : IntKind} {a b : Int} (h : a = b) : Ending.returned (.int k a) = .returned (.int k b) := by rw [h]
/-- The world has grown: nothing that was there has turned. -/
def Ext (w w' : World) : Prop := Below w.heap.size w w'
theorem Ext.refl (w : World) : Ext w w := Below.refl _ _
theorem Ext.trans {a b c : World} (h : Ext a b) (k : Ext b c) : Ext a c := Below.trans h (Below.mono k (Below.size h))
theorem Ext.alloc {a b : World} (h : Ext a b) (o : Obj) : Ext a (b.alloc o) := Below.alloc h (Below.size h) o
theorem Ext.drew {a b : World} (h : Ext a b) : Ext a b.drew := Below.drew h
theorem Ext.drewN {a b : World} (h : Ext a b) (n : Nat) : Ext a (b.drewN n) := Below.trans h ⟨rfl, rfl, rfl, Nat.le_refl _, fun _ _ => rfl⟩
theorem Ext.setCell {a b : World} (h : Ext a b) {p : Addr} (hp : a.heap.size ≤ p.block) (u : Value) : Ext a (b.setCell p u) := Below.setCell h hp u
theorem Ext.size {a b : World} (h : Ext a b) : a.heap.size ≤ b.heap.size := Below.size h
theorem Ext.below {a b : World} (h : Ext a b) : Below a.heap.size a b := h
theorem Ext.cell {W w1 : World} (hb : Ext W w1) {a : Addr} {v : Value} (h : W.cell? a = some v) : w1.cell? a = some v := by
  rw [Below.cell hb (World.block_lt_of_cell? W a h)]; exact h

theorem Ext.free {W w1 : World} (hb : Ext W w1) {a : Addr} {v : Value} (h : W.cell? a = some v) (hf : W.frozen? a = false) : w1.frozen? a = false := by
  rw [Below.frozen hb (World.block_lt_of_cell? W a h)]; exact hf

end Go.Proofs.Ytnbjjddfcondlaa

/- The plain mathematics of the globe: cells, rows. No program in sight. -/
namespace Go.Proofs.Ytnbjjddfcondlaa
namespace Globe

def inB (n lo hi : Int) : Bool := decide (lo ≤ n ∧ n ≤ hi)
theorem inB_t {n lo hi : Int} : inB n lo hi = true ↔ lo ≤ n ∧ n ≤ hi := by simp [inB]
/-- The element with an index; 0 behind the end. (Not reducible: the walk takes it as it stands.) -/
def nth (l : List Int) (i : Nat) : Int := l[i]?.getD 0
theorem nth_lt {l : List Int} {i : Nat} (h : i < l.length) : nth l i = l[i] := by rw [nth, List.getElem?_eq_getElem h]; rfl
theorem nth_ge {l : List Int} {i : Nat} (h : l.length ≤ i) : nth l i = 0 := by rw [nth, List.getElem?_eq_none h]; rfl
theorem nth_mem {l : List Int} {i : Nat} (h : i < l.length) : nth l i ∈ l := by rw [nth_lt h]; exact List.getElem_mem h
/-- A row of an area: its cells as bits. -/
def rowOk (r : Int) : Bool := decide (0 ≤ r ∧ r ≤ 281474976710655)
theorem rowOk_t {r : Int} : rowOk r = true ↔ 0 ≤ r ∧ r ≤ 281474976710655 := by simp [rowOk]
/-- A valid area. -/
def validL (l : List Int) : Bool := l.length == 24 && l.all rowOk
theorem validL_t {l : List Int} : validL l = true ↔ l.length = 24 ∧ ∀ r ∈ l, 0 ≤ r ∧ r ≤ 281474976710655 := by
  simp only [validL, Bool.and_eq_true, beq_iff_eq, List.all_eq_true, rowOk_t]
end Globe
end Go.Proofs.Ytnbjjddfcondlaa

/- A slice of ints that reads as a list. -/
namespace Go.Proofs.Ytnbjjddfcondlaa
open Go.RowKit

/-- At the address a (if there is one) the world w holds the ints l, one behind the other. -/
def IntsAt (w : World) (a : Option Addr) (l : List Int) : Prop :=
  l = [] ∨ ∃ b off, a = some ⟨b, off, none⟩ ∧ ∀ i, i < l.length → w.cell? ⟨b, off + i, none⟩ = some (.int .i64 (Globe.nth l i))
theorem IntsAt.ext {w w' : World} {a : Option Addr} {l : List Int} (h : IntsAt w a l) (hE : Ext w w') : IntsAt w' a l := by
  rcases h with h | ⟨b, off, rfl, h⟩
  · exact .inl h
  · exact .inr ⟨b, off, rfl, fun i hi => hE.cell (h i hi)⟩

/-- A new block of ints reads as the list. -/
theorem new_ints (w : World) (l : List Int) (t : TypeId) : ∀ i, i < l.length → (w.alloc (.cells (l.map (Value.int .i64)).toArray t)).cell? ⟨w.heap.size, 0 + i, none⟩ = some (.int .i64 (Globe.nth l i)) := by
  intro i hi
  rw [Nat.zero_add]
  rw [cell_of_row _ _ i _ t (0, 0) (heap_alloc_new w _)]
  simp [Globe.nth, hi]

end Go.Proofs.Ytnbjjddfcondlaa

/- Bits of a number that is not negative, in the spelling of the walk. -/
namespace Go.Proofs.Ytnbjjddfcondlaa
open Go.RowKit

theorem and_i64 (a b : Nat) (ha : a < 4611686018427387904) (hb : b < 4611686018427387904) : bits .and .i64 (a : Int) (b : Int) = ((a &&& b : Nat) : Int) :=
  (bits_nat .i64 62 (by decide) (fun n h1 h2 => by rw [IntKind.wrap_i64]; omega) a b (by omega) (by omega)).1
theorem or_i64 (a b : Nat) (ha : a < 4611686018427387904) (hb : b < 4611686018427387904) : bits .or .i64 (a : Int) (b : Int) = ((a ||| b : Nat) : Int) :=
  (bits_nat .i64 62 (by decide) (fun n h1 h2 => by rw [IntKind.wrap_i64]; omega) a b (by omega) (by omega)).2
end Go.Proofs.Ytnbjjddfcondlaa

/- The cells of an area: plain mathematics of bits. -/
namespace Go.Proofs.Ytnbjjddfcondlaa
namespace Globe

end Globe
end Go.Proofs.Ytnbjjddfcondlaa

/- Areas as lists of rows: has, put. Plain mathematics of bits. -/
namespace Go.Proofs.Ytnbjjddfcondlaa
namespace Globe

theorem nth_set {l : List Int} {y : Nat} {v : Int} (j : Nat) (h : y < l.length) : nth (l.set y v) j = if y = j then v else nth l j := by
  unfold nth
  rw [List.getElem?_set]
  by_cases e : y = j
  · subst e; simp [h]
  · simp [e]
theorem len_of_valid {l : List Int} (h : validL l = true) : l.length = 24 := (validL_t.1 h).1
theorem row_of_valid {l : List Int} (h : validL l = true) (y : Nat) : 0 ≤ nth l y ∧ nth l y ≤ 281474976710655 := by
  by_cases hy : y < l.length
  · exact (validL_t.1 h).2 _ (nth_mem hy)
  · rw [nth_ge (by omega)]; omega
end Globe
end Go.Proofs.Ytnbjjddfcondlaa

/- An area of one's own in memory: 24 rows that are written in place. -/
namespace Go.Proofs.Ytnbjjddfcondlaa
open Go.RowKit

/-- At block B stand the 24 rows of the list, and may be written. -/
def RowsAt (w : World) (B : Nat) (L : List Int) : Prop := L.length = 24 ∧ (∀ i, i < 24 → w.cell? ⟨B, i, none⟩ = some (.int .i64 (Globe.nth L i))) ∧ ∀ i, i < 24 → w.frozen? ⟨B, i, none⟩ = false
theorem RowsAt.len {w : World} {B : Nat} {L : List Int} (h : RowsAt w B L) : L.length = 24 := h.1
theorem RowsAt.cell {w : World} {B : Nat} {L : List Int} (h : RowsAt w B L) {i : Nat} (hi : i < 24) : w.cell? ⟨B, i, none⟩ = some (.int .i64 (Globe.nth L i)) := h.2.1 i hi
theorem RowsAt.free {w : World} {B : Nat} {L : List Int} (h : RowsAt w B L) {i : Nat} (hi : i < 24) : w.frozen? ⟨B, i, none⟩ = false := h.2.2 i hi
theorem RowsAt.ext {w w' : World} {B : Nat} {L : List Int} (h : RowsAt w B L) (hE : Ext w w') : RowsAt w' B L :=
  ⟨h.1, fun _ hi => hE.cell (h.cell hi), fun _ hi => hE.free (h.cell hi) (h.free hi)⟩
theorem RowsAt.lt {w : World} {B : Nat} {L : List Int} (h : RowsAt w B L) : B < w.heap.size := World.block_lt_of_cell? w _ (h.cell (i := 0) (by omega))
theorem RowsAt.set {w : World} {B : Nat} {L : List Int} (h : RowsAt w B L) {y : Nat} (hy : y < 24) (v : Int) : RowsAt (w.setCell ⟨B, y, none⟩ (.int .i64 v)) B (L.set y v) := by
  refine ⟨by rw [List.length_set]; exact h.1, fun i hi => ?_, fun i hi => ?_⟩
  · rw [Globe.nth_set _ (by rw [h.1]; exact hy)]
    by_cases e : y = i
    · subst e; rw [if_pos rfl]; have := h.cell hy; simp [go_sem, this]
    · rw [if_neg e, ← h.cell hi]
      exact World.cell?_setCell_other w _ _ _ (by intro c; exact e (congrArg Addr.off c))
  · have := h.free hi; simpa [go_sem] using this
theorem RowsAt.ints {w : World} {B : Nat} {L : List Int} (h : RowsAt w B L) : ∀ i, i < L.length → w.cell? ⟨B, 0 + i, none⟩ = some (.int .i64 (Globe.nth L i)) := fun i hi => by
  rw [Nat.zero_add]; exact h.cell (by rw [← h.1]; exact hi)
theorem RowsAt.new (w : World) (L : List Int) (t : TypeId) (hl : L.length = 24) : RowsAt (w.alloc (.cells (L.map (Value.int .i64)).toArray t)) w.heap.size L := by
  refine ⟨hl, fun i hi => ?_, fun i hi => by simp [go_sem]⟩
  have := new_ints w L t i (by omega)
  rwa [Nat.zero_add] at this

end Go.Proofs.Ytnbjjddfcondlaa

/- Union, meet, difference, shifting and growing of areas as lists of rows. Plain mathematics of bits. -/
namespace Go.Proofs.Ytnbjjddfcondlaa
namespace Globe

def rowN (l : List Int) (y : Nat) : Nat := (nth l y).toNat
theorem rowN_cast {l : List Int} (h : validL l = true) (y : Nat) : nth l y = (rowN l y : Int) := by
  have := row_of_valid h y; unfold rowN; omega
/-! Two areas, row by row. -/
/-! Turning. -/
/-! Growing by one cell. -/
/-! Boxes. -/
end Globe
end Go.Proofs.Ytnbjjddfcondlaa

/- What a function that makes an area returns. -/
namespace Go.Proofs.Ytnbjjddfcondlaa
open Go.RowKit

def RetAE (w : World) (L : List Int) (e : Ending) (w' : World) : Prop :=
  ∃ B : Nat, e = .returned (.tuple #[.agg #[.slice (some ⟨B, 0, none⟩) 24 24], .int .i64 0]) ∧ w.heap.size ≤ B ∧ RowsAt w' B L ∧ Ext w w'
/-- No area, and an error. -/
def RetErr (w : World) (c : Int) (e : Ending) (w' : World) : Prop := e = .returned (.tuple #[.agg #[.slice none 0 0], .int .i64 c]) ∧ Ext w w'
/-- Either. -/
def orL (ok : Bool) (L : List Int) : List Int := if ok then L else []
def orE (ok : Bool) (c : Int) : Int := if ok then 0 else c
def RetAny (w : World) (ok : Bool) (L : List Int) (c : Int) (e : Ending) (w' : World) : Prop :=
  ∃ (a : Option Addr) (k : Nat), e = .returned (.tuple #[.agg #[.slice a (orL ok L).length k], .int .i64 (orE ok c)]) ∧ IntsAt w' a (orL ok L) ∧ Ext w w' ∧ ∀ ad, a = some ad → w.heap.size ≤ ad.block ∧ ad.block < w'.heap.size
theorem RetAny.no {w : World} {L : List Int} {c : Int} {e : Ending} {w' : World} (h : RetErr w c e w') : RetAny w false L c e w' := by
  obtain ⟨rfl, hE⟩ := h
  exact ⟨none, 0, rfl, .inl rfl, hE, fun ad e => by cases e⟩
theorem RowsAt.any {w : World} {B : Nat} {L : List Int} (h : RowsAt w B L) : IntsAt w (some ⟨B, 0, none⟩) L := .inr ⟨B, 0, rfl, h.ints⟩
/-- The rows of a valid area that came from anywhere. -/
theorem IntsAt.rows {w : World} {a : Option Addr} {l : List Int} (h : IntsAt w a l) (hl : l.length = 24) : ∃ b off, a = some ⟨b, off, none⟩ ∧ ∀ i, i < 24 → w.cell? ⟨b, off + i, none⟩ = some (.int .i64 (Globe.nth l i)) := by
  rcases h with rfl | ⟨b, off, rfl, h⟩
  · simp at hl
  · exact ⟨b, off, rfl, fun i hi => h i (by omega)⟩
theorem IntsAt.lt {w : World} {b off : Nat} {l : List Int} (h : ∀ i, i < 24 → w.cell? ⟨b, off + i, none⟩ = some (.int .i64 (Globe.nth l i))) : b < w.heap.size := World.block_lt_of_cell? w _ (h 0 (by omega))

theorem RowsAt.keep {w w' : World} {B : Nat} {L : List Int} (h : RowsAt w B L) (hc : ∀ o, w'.cell? ⟨B, o, none⟩ = w.cell? ⟨B, o, none⟩) (hf : ∀ o, w'.frozen? ⟨B, o, none⟩ = w.frozen? ⟨B, o, none⟩) : RowsAt w' B L :=
  ⟨h.1, fun i hi => by rw [hc]; exact h.cell hi, fun i hi => by rw [hf]; exact h.free hi⟩
theorem RowsAt.other {w : World} {B : Nat} {L : List Int} (h : RowsAt w B L) {p : Addr} (hp : p.block ≠ B) (v : Value) : RowsAt (w.setCell p v) B L :=
  h.keep (fun o => World.cell?_setCell_other w _ _ _ (fun e => hp (by rw [e]))) (fun o => by simp [go_sem])

/-- A box of the call's own: what it holds, and that it may be written. -/
def BoxAt (w : World) (b o : Nat) (v : Value) : Prop := w.cell? ⟨b, o, none⟩ = some v ∧ w.frozen? ⟨b, o, none⟩ = false
theorem BoxAt.ext {w w' : World} {b o : Nat} {v : Value} (hE : Ext w w') (h : BoxAt w b o v) : BoxAt w' b o v := ⟨hE.cell h.1, hE.free h.1 h.2⟩
theorem BoxAt.lt {w : World} {b o : Nat} {v : Value} (h : BoxAt w b o v) : b < w.heap.size := World.block_lt_of_cell? w _ h.1
theorem BoxAt.other {w : World} {b o : Nat} {v : Value} (h : BoxAt w b o v) {p : Addr} (hp : p.block ≠ b) (u : Value) : BoxAt (w.setCell p u) b o v :=
  ⟨by rw [World.cell?_setCell_other w _ _ _ (fun e => hp (by rw [e]))]; exact h.1, by simp [go_sem, h.2]⟩
theorem BoxAt.drew {w : World} {b o : Nat} {v : Value} (h : BoxAt w b o v) : BoxAt w.drew b o v := ⟨h.1, h.2⟩
theorem BoxAt.drewN {w : World} {b o : Nat} {v : Value} (h : BoxAt w b o v) (n : Nat) : BoxAt (w.drewN n) b o v := ⟨h.1, h.2⟩
theorem RowsAt.drewN {w : World} {B : Nat} {L : List Int} (h : RowsAt w B L) (n : Nat) : RowsAt (w.drewN n) B L := ⟨h.1, fun _ hi => h.cell hi, fun _ hi => h.free hi⟩
theorem RowsAt.drew {w : World} {B : Nat} {L : List Int} (h : RowsAt w B L) : RowsAt w.drew B L := ⟨h.1, fun _ hi => h.cell hi, fun _ hi => h.free hi⟩

/-- What a caller knows of an area in memory: any rows, or a valid area. -/
def AA (w : World) (a : Option Addr) (l : List Int) (n : Nat) (v : Bool) : Prop := IntsAt w a l ∧ l.length = n ∧ n ≤ 140737488355328 ∧ Globe.validL l = v
def VA (w : World) (b o : Nat) (l : List Int) : Prop := (∀ i, i < 24 → w.cell? ⟨b, o + i, none⟩ = some (.int .i64 (Globe.nth l i))) ∧ Globe.validL l = true
theorem AA.ext {w w' : World} {a : Option Addr} {l : List Int} {n : Nat} {v : Bool} (h : AA w a l n v) (hE : Ext w w') : AA w' a l n v := ⟨h.1.ext hE, h.2⟩
theorem VA.ext {w w' : World} {b o : Nat} {l : List Int} (h : VA w b o l) (hE : Ext w w') : VA w' b o l := ⟨fun i hi => hE.cell (h.1 i hi), h.2⟩
theorem VA.lt {w : World} {b o : Nat} {l : List Int} (h : VA w b o l) : b < w.heap.size := IntsAt.lt h.1
theorem VA.len {w : World} {b o : Nat} {l : List Int} (h : VA w b o l) : l.length = 24 := Globe.len_of_valid h.2
theorem VA.cell {w : World} {b o : Nat} {l : List Int} (h : VA w b o l) {y : Nat} (hy : y < 24) : w.cell? ⟨b, o + y, none⟩ = some (.int .i64 (Globe.rowN l y : Nat)) := by rw [← Globe.rowN_cast h.2]; exact h.1 y hy
theorem AA.va {w : World} {a : Option Addr} {l : List Int} {n : Nat} (h : AA w a l n true) : ∃ b o, a = some ⟨b, o, none⟩ ∧ n = 24 ∧ VA w b o l := by
  have hl := Globe.len_of_valid h.2.2.2
  obtain ⟨b, o, rfl, hr⟩ := h.1.rows hl
  exact ⟨b, o, rfl, by rw [← h.2.1]; exact hl, hr, h.2.2.2⟩
theorem RowsAt.va {w : World} {B : Nat} {L : List Int} (h : RowsAt w B L) (hv : Globe.validL L = true) : VA w B 0 L := ⟨fun i hi => by rw [Nat.zero_add]; exact h.cell hi, hv⟩
/-- A fresh valid area, and no error. -/
def RetV (w : World) (L : List Int) (e : Ending) (w' : World) : Prop :=
  ∃ B k : Nat, e = .returned (.tuple #[.agg #[.slice (some ⟨B, 0, none⟩) 24 k], .int .i64 0]) ∧ w.heap.size ≤ B ∧ RowsAt w' B L ∧ VA w' B 0 L ∧ Ext w w'
theorem RetAE.v {w : World} {L : List Int} {e : Ending} {w' : World} (h : RetAE w L e w') (hv : Globe.validL L = true) : RetV w L e w' := by
  obtain ⟨B, rfl, hB, hr, hE⟩ := h
  exact ⟨B, 24, rfl, hB, hr, hr.va hv, hE⟩
theorem RetV.any {w : World} {L : List Int} {c : Int} {e : Ending} {w' : World} (h : RetV w L e w') : RetAny w true L c e w' := by
  obtain ⟨B, k, rfl, hB, hr, hv, hE⟩ := h
  exact ⟨some ⟨B, 0, none⟩, k, by show _ = Ending.returned (.tuple #[.agg #[.slice _ L.length _], _]); rw [hr.len]; rfl, .inr ⟨B, 0, rfl, hr.ints⟩, hE, fun ad e => by cases e; exact ⟨hB, hr.lt⟩⟩

end Go.Proofs.Ytnbjjddfcondlaa

/- A region that draws its order, gone through over a list of what its operations have written so far: the frame itself stays behind a name till the region's end. -/
namespace Go.Proofs.Ytnbjjddfcondlaa
open Go.RowKit

/-- What was written last at a slot. -/
def look : List (Nat × Value) → (Nat → Value) → Nat → Value
  | [], f, k => f k
  | (d, v) :: ws, f, k => if k = d then v else look ws f k
theorem look_cons (d : Nat) (v : Value) (ws : List (Nat × Value)) (f : Nat → Value) (k : Nat) : look ((d, v) :: ws) f k = if k = d then v else look ws f k := rfl
def base (L : List Value) (t : Nat) : Value := L.toArray.getD t undef
def evalW (L : List Value) (ws : List (Nat × Value)) : Operand → Value
  | .tmp t => look ws (base L) t
  | o => Act.eval ⟨#[], []⟩ o
def setAll (L : List Value) : List (Nat × Value) → List Value
  | [] => L
  | (d, v) :: ws => (setAll L ws).set d v
theorem setAll_len (L : List Value) : ∀ ws, (setAll L ws).length = L.length
  | [] => rfl
  | (d, v) :: ws => by rw [setAll, List.length_set, setAll_len L ws]
theorem setAll_get (L : List Value) : ∀ ws : List (Nat × Value), (∀ p ∈ ws, p.1 < L.length) → ∀ t, (setAll L ws).toArray.getD t undef = look ws (base L) t
  | [], _, t => rfl
  | (d, v) :: ws, h, t => by
    have ih := setAll_get L ws (fun p hp => h p (List.mem_cons_of_mem _ hp)) t
    have hd : d < (setAll L ws).length := by rw [setAll_len]; exact h (d, v) (by simp)
    rw [look_cons, ← ih, setAll]
    by_cases e : t = d
    · subst e; simp [hd]
    · have e' : d ≠ t := fun c => e c.symm
      simp [e, List.getElem?_set_ne e']
def lset (m : Nat) : List Nat → Array Bool
  | [] => Array.replicate m false
  | i :: r => (lset m r).setIfInBounds i true
theorem lset_size (m : Nat) : ∀ l, (lset m l).size = m
  | [] => by simp [lset]
  | i :: r => by simp [lset, lset_size m r]
theorem lset_get (m : Nat) (b : Bool) : ∀ (l : List Nat) (j : Nat), (lset m l).getD j b = if j < m then l.contains j else b
  | [], j => by by_cases h : j < m <;> simp [lset, h]
  | i :: r, j => by
    have ih := lset_get m b r j
    have hs := lset_size m r
    by_cases h : j < m
    · rw [if_pos h] at ih ⊢
      by_cases e : i = j
      · subst e; simp [lset, hs, h]
      · have e2 : j ≠ i := fun c => e c.symm
        simp only [lset, Array.getD_eq_getD_getElem?, Array.getElem?_setIfInBounds_ne e, List.contains_cons] at ih ⊢
        rw [ih]
        have : (j == i) = false := by simp [e2]
        rw [this, Bool.false_or]
    · rw [if_neg h] at ih ⊢
      have h1 : m ≤ j := by omega
      simp [lset, hs, h1]

/-- A region's rows: where an operation writes, what it looks at, what it waits for. -/
abbrev Row := Option Nat × List Nat × List Nat
def waits (o : Oper) : List Nat := (o.after.toList.filter (Region.binds .any)).map (·.on)
def rowOf (ops : Array Oper) (o : Oper) : Row := (o.dst, o.looksAt ops, waits o)
def tableR (ops : Array Oper) : List Row := ops.toList.map (rowOf ops)
def ordered (x y : Row × Nat) : Bool := x.1.2.2.contains y.2 || y.1.2.2.contains x.2
/-- Two rows: where they touch one slot, one waits for the other. -/
def fits (x y : Row × Nat) : Bool :=
  (match x.1.1 with
   | some d => (!(y.1.2.1.contains d) || ordered x y) && (!(y.1.1 == some d) || ordered x y)
   | none => true) &&
  (match y.1.1 with
   | some d => !(x.1.2.1.contains d) || ordered x y
   | none => true)
def fitsAll (x : Row × Nat) : List (Row × Nat) → Bool
  | [] => true
  | y :: r => fits x y && fitsAll x r
def goodL : List (Row × Nat) → Bool
  | [] => true
  | x :: r => fitsAll x r && goodL r
def numbered : List Row → Nat → List (Row × Nat)
  | [], _ => []
  | x :: r, k => (x, k) :: numbered r (k + 1)
def inRB (n : Nat) : List Row → Bool
  | [] => true
  | x :: r => (match x.1 with | some d => Nat.blt d n | none => true) && inRB n r
def inA (m : Nat) : List Row → Bool
  | [] => true
  | x :: r => x.2.2.all (fun k => Nat.blt k m) && inA m r
def goodT (n m : Nat) (T : List Row) : Bool := goodL (numbered T 0) && (inRB n T && inA m T)
theorem fits_comm (x y : Row × Nat) (h : fits x y = true) : fits y x = true := by
  obtain ⟨⟨dx, lx, ax⟩, i⟩ := x
  obtain ⟨⟨dy, ly, ay⟩, j⟩ := y
  have e : ∀ a b : Bool, (a || b) = (b || a) := fun a b => Bool.or_comm a b
  cases dx <;> cases dy <;> simp only [fits, ordered, Bool.and_true, Bool.true_and] at h ⊢
  · rw [e (ay.contains i)]; simpa using h
  · rw [e (ay.contains i)]; simpa using h
  · rename_i d d'
    rw [e (ay.contains i)]
    simp only [Bool.and_eq_true] at h ⊢
    obtain ⟨⟨h1, h2⟩, h3⟩ := h
    refine ⟨⟨h3, ?_⟩, h1⟩
    by_cases c : d = d'
    · subst c; simpa using h2
    · have : (some d == some d') = false := by simp [c]
      rw [this]; rfl
theorem fitsAll_mem {x y : Row × Nat} : ∀ {l}, fitsAll x l = true → y ∈ l → fits x y = true
  | z :: r, h, hy => by
    simp only [fitsAll, Bool.and_eq_true] at h
    rcases List.mem_cons.1 hy with rfl | hy
    · exact h.1
    · exact fitsAll_mem h.2 hy
theorem goodL_mem {x y : Row × Nat} : ∀ {l}, goodL l = true → x ∈ l → y ∈ l → x ≠ y → fits x y = true
  | z :: r, h, hx, hy, hne => by
    simp only [goodL, Bool.and_eq_true] at h
    rcases List.mem_cons.1 hx with e1 | h1
    · rcases List.mem_cons.1 hy with e2 | h2
      · exact absurd (e1.trans e2.symm) hne
      · rw [e1]; exact fitsAll_mem h.1 h2
    · rcases List.mem_cons.1 hy with e2 | h2
      · rw [e2]; exact fits_comm _ _ (fitsAll_mem h.1 h1)
      · exact goodL_mem h.2 h1 h2 hne
theorem mem_numbered : ∀ {T : List Row} {k i : Nat} {x : Row}, T[i]? = some x → (x, k + i) ∈ numbered T k
  | y :: r, k, 0, x, h => by simp at h; subst h; simp [numbered]
  | y :: r, k, i + 1, x, h => by
    simp at h
    have := mem_numbered (k := k + 1) h
    rw [numbered, show k + (i + 1) = k + 1 + i by omega]
    exact List.mem_cons_of_mem _ this
theorem inRB_get {n : Nat} : ∀ {T : List Row} {i : Nat} {x : Row} {d : Nat}, inRB n T = true → T[i]? = some x → x.1 = some d → d < n
  | y :: r, 0, x, d, h, hx, hd => by
    simp at hx; subst hx
    simp only [inRB, Bool.and_eq_true, hd] at h
    exact Nat.blt_eq.mp h.1
  | y :: r, i + 1, x, d, h, hx, hd => by
    simp only [inRB, Bool.and_eq_true] at h
    exact inRB_get h.2 (by simpa using hx) hd

theorem inA_get {m : Nat} : ∀ {T : List Row} {i : Nat} {x : Row}, inA m T = true → T[i]? = some x → ∀ k ∈ x.2.2, k < m
  | y :: r, 0, x, h, hx => by
    simp at hx; subst hx
    simp only [inA, Bool.and_eq_true] at h
    exact fun k hk => Nat.blt_eq.mp (List.all_eq_true.1 h.1 k hk)
  | y :: r, i + 1, x, h, hx => by
    simp only [inA, Bool.and_eq_true] at h
    exact inA_get h.2 (by simpa using hx)

section
variable {P : Program} {ops : Array Oper} {Q : Exit → Act → World → Prop} {S : World → Prop} {T : List Row}

theorem table_get {i : Nat} {oi : Oper} (ht : tableR ops = T) (hi : ops[i]? = some oi) : T[i]? = some (rowOf ops oi) := by
  rw [← ht]; simp [tableR, hi]
theorem table_len (ht : tableR ops = T) : T.length = ops.size := by rw [← ht]; simp [tableR]
/-- May number i come up? -/
def readyT (T : List Row) (done : List Nat) (i : Nat) : Bool := !done.contains i && match T.drop i with | (_, _, a) :: _ => a.all (fun k => done.contains k) | [] => false
theorem lt_of_get {α : Type} {l : Array α} {i : Nat} {x : α} (h : l[i]? = some x) : i < l.size := by
  rcases Nat.lt_or_ge i l.size with h1 | h1
  · exact h1
  · rw [Array.getElem?_eq_none h1] at h; cases h
theorem drop_get {α : Type} {l : List α} {i : Nat} {x : α} (h : l[i]? = some x) : ∃ r, l.drop i = x :: r := by
  have hl : i < l.length := by
    rcases Nat.lt_or_ge i l.length with h1 | h1
    · exact h1
    · rw [List.getElem?_eq_none h1] at h; cases h
  rw [List.getElem?_eq_getElem hl] at h
  exact ⟨_, by rw [List.drop_eq_getElem_cons hl]; simp at h; rw [h]⟩
theorem mem_waits {o : Oper} {e : Edge} (he : e ∈ o.after) (hb : Region.binds .any e = true) : e.on ∈ waits o := by
  unfold waits
  rw [List.mem_map]
  exact ⟨e, by rw [List.mem_filter]; exact ⟨by simpa using he, hb⟩, rfl⟩
theorem waits_mem {o : Oper} {k : Nat} (h : k ∈ waits o) : ∃ e ∈ o.after, Region.binds .any e = true ∧ e.on = k := by
  unfold waits at h
  rw [List.mem_map] at h
  obtain ⟨e, h1, h2⟩ := h
  rw [List.mem_filter] at h1
  exact ⟨e, by simpa using h1.1, h1.2, h2⟩
theorem ready_iff {done : List Nat} {i : Nat} {oi : Oper} (hi : ops[i]? = some oi) (hin : ∀ k ∈ waits oi, k < ops.size) :
    i ∈ Region.ready .any ops (lset ops.size done) ↔ done.contains i = false ∧ ∀ k ∈ waits oi, done.contains k = true := by
  have hlt := lt_of_get hi
  rw [mem_ready, lset_get, if_pos hlt]
  constructor
  · rintro ⟨h1, o, ho, h2⟩
    rw [hi] at ho; cases ho
    refine ⟨h1, fun k hk => ?_⟩
    obtain ⟨e, he, hb, rfl⟩ := waits_mem hk
    have := h2 e he hb
    rwa [lset_get, if_pos (hin _ hk)] at this
  · rintro ⟨h1, h2⟩
    refine ⟨h1, oi, hi, fun e he hb => ?_⟩
    rw [lset_get, if_pos (hin _ (mem_waits he hb))]
    exact h2 _ (mem_waits he hb)
theorem readyT_mem {n : Nat} {done : List Nat} {i : Nat} {oi : Oper} (ht : tableR ops = T) (hg : goodT n ops.size T = true) (hi : ops[i]? = some oi) (h : readyT T done i = true) :
    i ∈ Region.ready .any ops (lset ops.size done) := by
  have hT := table_get ht hi
  simp only [goodT, Bool.and_eq_true] at hg
  rw [ready_iff hi (inA_get hg.2.2 hT)]
  obtain ⟨r, hr⟩ := drop_get hT
  unfold readyT at h
  rw [hr] at h
  simp only [rowOf, Bool.and_eq_true] at h
  exact ⟨by simpa using h.1, List.all_eq_true.1 h.2⟩
/-- What may come up touches nothing that another one, which does not wait for it, touches. -/
theorem apart_of_good {n : Nat} {done : List Nat} {i : Nat} {oi : Oper} (ht : tableR ops = T) (hg : goodT n ops.size T = true) (hi : ops[i]? = some oi) (hr : readyT T done i = true)
    (j : Nat) (oj : Oper) (hj : ops[j]? = some oj) (hne : j ≠ i) (hun : (lset ops.size done).getD j true = false) (hno : ∀ e ∈ oj.after, Region.binds .any e = true → e.on ≠ i) : oi.apart ops oj = true := by
  have hmi := readyT_mem ht hg hi hr
  have hTi := table_get ht hi
  have hTj := table_get ht hj
  simp only [goodT, Bool.and_eq_true] at hg
  rw [ready_iff hi (inA_get hg.2.2 hTi)] at hmi
  rw [lset_get, if_pos (lt_of_get hj)] at hun
  have hf := goodL_mem hg.1 (mem_numbered (k := 0) hTi) (mem_numbered (k := 0) hTj) (by
    intro c
    have := congrArg Prod.snd c
    simp at this
    exact hne this.symm)
  have hord : ordered (rowOf ops oi, 0 + i) (rowOf ops oj, 0 + j) = false := by
    simp only [ordered, rowOf, Nat.zero_add, Bool.or_eq_false_iff]
    constructor
    · rcases h : (waits oi).contains j with _ | _
      · rfl
      · have := hmi.2 j (by simpa using h)
        rw [hun] at this; cases this
    · rcases h : (waits oj).contains i with _ | _
      · rfl
      · obtain ⟨e, he, hb, hk⟩ := waits_mem (o := oj) (k := i) (by simpa using h)
        exact absurd hk (hno e he hb)
  unfold fits at hf
  rw [hord] at hf
  simp only [rowOf, Bool.or_false] at hf
  unfold Oper.apart
  cases h1 : oi.dst <;> cases h2 : oj.dst <;> rw [h1, h2] at hf <;> first | rfl | simpa [bne] using hf

/-- The walk through a region: the operations 'done' have come up, 'ws' is what they have written. -/
def W (P : Program) (ops : Array Oper) (Q : Exit → Act → World → Prop) (S : World → Prop) (L : List Value) (ds : List Deferred) (fuel : Nat) (done : List Nat) (ws : List (Nat × Value)) (w : World) : Prop :=
  (∀ p ∈ ws, p.1 < L.length) → wpAnyH P .any ops Q S fuel (lset ops.size done) ⟨(setAll L ws).toArray, ds⟩ w
theorem eval_W {L : List Value} {ws : List (Nat × Value)} (h : ∀ p ∈ ws, p.1 < L.length) (ds : List Deferred) : Act.eval ⟨(setAll L ws).toArray, ds⟩ = evalW L ws := by
  funext o
  cases o with
  | tmp t => exact setAll_get L ws h t
  | const v => rfl
  | global g => rfl
  | func f => rfl
def putW : Option Nat → Value → List (Nat × Value) → List (Nat × Value)
  | some d, v, ws => (d, v) :: ws
  | none, _, ws => ws
theorem put_W (L : List Value) (ws : List (Nat × Value)) (ds : List Deferred) (d : Option Nat) (v : Value) : Act.put ⟨(setAll L ws).toArray, ds⟩ d v = ⟨(setAll L (putW d v ws)).toArray, ds⟩ := by
  cases d with
  | none => rfl
  | some d => simp [Act.put, putW, setAll]
theorem putW_lt {L : List Value} {ws : List (Nat × Value)} {d : Option Nat} {v : Value} (h : ∀ p ∈ ws, p.1 < L.length) (hd : ∀ k, d = some k → k < L.length) : ∀ p ∈ putW d v ws, p.1 < L.length := by
  cases d with
  | none => exact h
  | some d =>
    intro p hp
    rcases List.mem_cons.1 hp with rfl | hp
    · exact hd _ rfl
    · exact h p hp
/-- Is an operation wanted? -/
def wantedW (T : List Row) (L : List Value) (ws : List (Nat × Value)) : Option (Nat × Bool) → Bool
  | none => true
  | some (g, want) => match T.drop g with
    | (some d, _, _) :: _ => (match look ws (base L) d with | .bool b => b == want | _ => false)
    | _ => false
theorem wanted_W {n : Nat} {L : List Value} {ws : List (Nat × Value)} {o : Oper} {b : Bool} (ds : List Deferred) (ht : tableR ops = T) (hg : goodT L.length n T = true) (h : ∀ p ∈ ws, p.1 < L.length) (hw : wantedW T L ws o.guard = b) :
    Region.wanted o (yielded ops (⟨(setAll L ws).toArray, ds⟩ : Act).tmps) = b := by
  subst hw
  unfold Region.wanted wantedW
  cases hgd : o.guard with
  | none => rfl
  | some p =>
    obtain ⟨g, want⟩ := p
    simp only [yielded]
    cases hj : ops[g]? with
    | none =>
      have : T.drop g = [] := by
        rw [List.drop_eq_nil_iff, table_len ht]
        rcases Nat.lt_or_ge g ops.size with h1 | h1
        · rw [Array.getElem?_eq_getElem h1] at hj; cases hj
        · exact h1
      rw [this]; rfl
    | some og =>
      have hT := table_get ht hj
      obtain ⟨r, hr⟩ := drop_get hT
      rw [hr]
      simp only [rowOf, Option.bind_some]
      cases hd : og.dst with
      | none => rfl
      | some d =>
        simp only [goodT, Bool.and_eq_true] at hg
        have hlt : d < L.length := inRB_get hg.2.1 hT hd
        have hget := setAll_get L ws h d
        have hlt2 : d < (setAll L ws).toArray.size := by simp [setAll_len, hlt]
        simp only [Array.getD, hlt2, dif_pos] at hget
        simp only [Option.bind_some]
        rw [Array.getElem?_eq_getElem hlt2]
        have e : (setAll L ws).toArray[d] = look ws (base L) d := hget
        rw [e]
        cases look ws (base L) d <;> rfl

section
variable {L : List Value} {ds : List Deferred} {fuel : Nat} {done : List Nat} {ws : List (Nat × Value)} {w : World}
/-- All that is fixed through a region. -/
structure Reg (P : Program) (ops0 ops : Array Oper) (Q : Exit → Act → World → Prop) (L : List Value) (T : List Row) : Prop where
  ops_eq : ops = ops0
  tab : tableR ops = T
  good : goodT L.length ops.size T = true
  nosel : Region.noSelect ops = true
  calm : ∀ c d v a w, Q (.panic c) (Act.put a d v) w → Q (.panic c) a w
variable {ops0 : Array Oper}
theorem dst_lt (hR : Reg P ops0 ops Q L T) {i : Nat} {oi : Oper} (hi : ops[i]? = some oi) : ∀ k, oi.dst = some k → k < L.length := fun k hk => by
  have := hR.good
  simp only [goodT, Bool.and_eq_true] at this
  exact inRB_get this.2.1 (table_get hR.tab hi) hk
theorem op_at (hR : Reg P ops0 ops Q L T) {i : Nat} {oi : Oper} {r : List Oper} (hi : ops0.toList.drop i = oi :: r) : ops[i]? = some oi := by
  rw [hR.ops_eq, ← Array.getElem?_toList, ← Nat.add_zero i, ← List.getElem?_drop, hi]; rfl
/-- Number i, which only reads, comes first. -/
theorem wg_take (i : Nat) {oi : Oper} {r : List Oper} {v : Value} (hR : Reg P ops0 ops Q L T) (hi : ops0.toList.drop i = oi :: r) (hr : readyT T done i = true)
    (hw : wantedW T L ws oi.guard = true) (hy : ∀ w, S w → (execOp (evalW L ws) oi).run P w = .ok (.value v) w) (hS : S w)
    (h : W P ops Q S L ds fuel (i :: done) (putW oi.dst v ws) w) : W P ops Q S L ds (fuel + 1) done ws w := fun hb => by
  have ho := op_at hR hi
  refine wpAnyH_first (v := v) ho (Region.noSelect_spec hR.nosel) (fun c a w => hR.calm c _ _ a w) fuel _ _ w (apart_of_good hR.tab hR.good ho hr) (readyT_mem hR.tab hR.good ho hr) ?_ hS ?_
  · exact .inl ⟨wanted_W ds hR.tab hR.good hb hw, fun w hw => by rw [eval_W hb]; exact hy w hw⟩
  · rw [put_W]; exact h (putW_lt hb (dst_lt hR ho))
/-- Number i is not wanted. -/
theorem wg_skip (i : Nat) {oi : Oper} {r : List Oper} (hR : Reg P ops0 ops Q L T) (hi : ops0.toList.drop i = oi :: r) (hr : readyT T done i = true)
    (hw : wantedW T L ws oi.guard = false) (hS : S w)
    (h : W P ops Q S L ds fuel (i :: done) (putW oi.dst undef ws) w) : W P ops Q S L ds (fuel + 1) done ws w := fun hb => by
  have ho := op_at hR hi
  refine wpAnyH_first (v := undef) ho (Region.noSelect_spec hR.nosel) (fun c a w => hR.calm c _ _ a w) fuel _ _ w (apart_of_good hR.tab hR.good ho hr) (readyT_mem hR.tab hR.good ho hr) ?_ hS ?_
  · exact .inr ⟨wanted_W ds hR.tab hR.good hb hw, rfl⟩
  · rw [put_W]; exact h (putW_lt hb (dst_lt hR ho))
/-- What comes of an operation that is carried out. -/
def StepW (P : Program) (S : World → Prop) (L : List Value) (ws : List (Nat × Value)) (oi : Oper) (w : World) (N : Value → World → Prop) : Prop :=
  (∃ v w', (execOp (evalW L ws) oi).run P w = .ok (.value v) w' ∧ S w' ∧ N v w') ∨ (∃ w', (execOp (evalW L ws) oi).run P w = .ok .skip w' ∧ S w' ∧ N undef w') ∨
  (∃ f args, (execOp (evalW L ws) oi).run P w = .ok (.enter f args) w ∧ Calls P f args w fun e w' => ∃ v, e = .returned v ∧ S w' ∧ N v w')
theorem StepW.wp {oi : Oper} {N : Value → World → Prop} {a : Act} {K : Act → World → Prop} (h : StepW P S L ws oi w N) (he : a.eval = evalW L ws) (hK : ∀ v w', S w' → N v w' → K (a.put oi.dst v) w') : Oper.wp P oi a w K Q := by
  unfold Oper.wp
  rw [he]
  rcases h with ⟨v, w', h1, h2, h3⟩ | ⟨w', h1, h2, h3⟩ | ⟨f, args, h1, h2⟩
  · rw [h1, Oper.upon_value]; exact hK v w' h2 h3
  · rw [h1, Oper.upon_skip]; exact hK undef w' h2 h3
  · rw [h1, Oper.upon_enter]
    exact h2.mono fun e w' ⟨v, he, hs, hn⟩ => by subst he; exact hK v w' hs hn
/-- Which numbers may come up. -/
def upT (done : List Nat) : List (Row × Nat) → List Nat
  | [] => []
  | (x, k) :: r => if !done.contains k && x.2.2.all (fun j => done.contains j) then k :: upT done r else upT done r
theorem mem_upT {done : List Nat} {x : Row} {k : Nat} (h1 : done.contains k = false) (h2 : ∀ j ∈ x.2.2, done.contains j = true) : ∀ {l}, (x, k) ∈ l → k ∈ upT done l
  | (y, j) :: r, h => by
    rcases List.mem_cons.1 h with e | h
    · cases e
      unfold upT
      rw [if_pos (by simp only [h1, Bool.not_false, Bool.true_and]; exact List.all_eq_true.2 h2)]
      exact List.mem_cons_self
    · have ih := mem_upT h1 h2 h
      unfold upT
      split
      · exact List.mem_cons_of_mem _ ih
      · exact ih
theorem ready_up (hR : Reg P ops0 ops Q L T) {j : Nat} (h : j ∈ Region.ready .any ops (lset ops.size done)) : j ∈ upT done (numbered T 0) := by
  obtain ⟨_, oj, hj, _⟩ := mem_ready.1 h
  have hT := table_get hR.tab hj
  have hg := hR.good
  simp only [goodT, Bool.and_eq_true] at hg
  rw [ready_iff hj (inA_get hg.2.2 hT)] at h
  have hm := mem_numbered (k := 0) hT
  rw [Nat.zero_add] at hm
  exact mem_upT (x := rowOf ops oj) h.1 h.2 hm
/-- One operation alone may come up. -/
theorem wg_step (i : Nat) {oi : Oper} {r : List Oper} (hR : Reg P ops0 ops Q L T) (hi : ops0.toList.drop i = oi :: r) (hr : upT done (numbered T 0) = [i])
    (hw : wantedW T L ws oi.guard = true)
    (h : StepW P S L ws oi w fun v w' => S w' → W P ops Q S L ds fuel (i :: done) (putW oi.dst v ws) w') (hr2 : readyT T done i = true) : W P ops Q S L ds (fuel + 1) done ws w := fun hb => by
  have ho := op_at hR hi
  refine ⟨fun h0 => ?_, fun j hj => ?_⟩
  · have := readyT_mem hR.tab hR.good ho hr2
    rw [h0] at this; cases this
  · have := ready_up hR hj
    rw [hr] at this
    obtain rfl := List.mem_singleton.1 this
    refine wpOp_step ho fun K' hK => ?_
    rw [if_pos (wanted_W ds hR.tab hR.good hb hw)]
    exact h.wp (eval_W hb ds) fun v w' hs hn => hK _ _ ⟨hs, by rw [put_W]; exact hn hs (putW_lt hb (dst_lt hR ho))⟩
/-- Either of two may come up. -/
theorem wg_two (i j : Nat) {oi oj : Oper} {r s : List Oper} (hR : Reg P ops0 ops Q L T) (hi : ops0.toList.drop i = oi :: r) (hj : ops0.toList.drop j = oj :: s) (hr : upT done (numbered T 0) = [i, j])
    (hwi : wantedW T L ws oi.guard = true) (hwj : wantedW T L ws oj.guard = true) (hr2 : readyT T done i = true)
    (h1 : StepW P S L ws oi w fun v w' => S w' → W P ops Q S L ds fuel (i :: done) (putW oi.dst v ws) w')
    (h2 : StepW P S L ws oj w fun v w' => S w' → W P ops Q S L ds fuel (j :: done) (putW oj.dst v ws) w') : W P ops Q S L ds (fuel + 1) done ws w := fun hb => by
  have ho := op_at hR hi
  have ho2 := op_at hR hj
  refine ⟨fun h0 => ?_, fun k hk => ?_⟩
  · have := readyT_mem hR.tab hR.good ho hr2
    rw [h0] at this; cases this
  · have := ready_up hR hk
    rw [hr] at this
    rcases List.mem_cons.1 this with rfl | this
    · refine wpOp_step ho fun K' hK => ?_
      rw [if_pos (wanted_W ds hR.tab hR.good hb hwi)]
      exact h1.wp (eval_W hb ds) fun v w' hs hn => hK _ _ ⟨hs, by rw [put_W]; exact hn hs (putW_lt hb (dst_lt hR ho))⟩
    · obtain rfl := List.mem_singleton.1 this
      refine wpOp_step ho2 fun K' hK => ?_
      rw [if_pos (wanted_W ds hR.tab hR.good hb hwj)]
      exact h2.wp (eval_W hb ds) fun v w' hs hn => hK _ _ ⟨hs, by rw [put_W]; exact hn hs (putW_lt hb (dst_lt hR ho2))⟩
def lookO : List (Nat × Value) → Nat → Option Value
  | [], _ => none
  | (d, v) :: ws, k => if k = d then some v else lookO ws k
theorem setAll_get? (L : List Value) : ∀ (ws : List (Nat × Value)) (t : Nat), (setAll L ws)[t]? = if t < L.length then (lookO ws t).or (L[t]?) else none
  | [], t => by by_cases h : t < L.length <;> simp [setAll, lookO, h]
  | (d, v) :: ws, t => by
    have ih := setAll_get? L ws t
    rw [setAll, List.getElem?_set, lookO, setAll_len]
    by_cases e : t = d
    · subst e
      by_cases h : t < L.length <;> simp [h]
    · have e' : d ≠ t := fun c => e c.symm
      rw [if_neg e', ih, if_neg e]
/-- Only block O has turned. -/
def Only (O : Nat) (w X : World) : Prop := ∃ j v, X = w.setCell ⟨O, j, none⟩ v
theorem Only.ext {O : Nat} {a w X : World} (h : Only O w X) (hE : Ext a w) (hO : a.heap.size ≤ O) : Ext a X := by
  obtain ⟨j, v, rfl⟩ := h; exact hE.setCell hO v
theorem Only.size {O : Nat} {w X : World} (h : Only O w X) : X.heap.size = w.heap.size := by
  obtain ⟨j, v, rfl⟩ := h; simp
theorem Only.va {O : Nat} {w X : World} (h : Only O w X) {b o : Nat} {l : List Int} (hb : O ≠ b) (hv : VA w b o l) : VA X b o l := by
  obtain ⟨j, v, rfl⟩ := h
  exact ⟨fun i hi => by rw [World.cell?_setCell_other w _ _ _ (fun e => hb (congrArg Addr.block e))]; exact hv.1 i hi, hv.2⟩
theorem Only.box {O : Nat} {w X : World} (h : Only O w X) {b o : Nat} {u : Value} (hb : O ≠ b) (hv : BoxAt w b o u) : BoxAt X b o u := by
  obtain ⟨j, v, rfl⟩ := h; exact hv.other (p := ⟨O, j, none⟩) hb v
theorem Only.rows {O : Nat} {w X : World} (h : Only O w X) {b : Nat} {l : List Int} (hb : O ≠ b) (hv : RowsAt w b l) : RowsAt X b l := by
  obtain ⟨j, v, rfl⟩ := h; exact hv.other (p := ⟨O, j, none⟩) hb v
theorem Only.cell {O : Nat} {w X : World} (h : Only O w X) {p : Addr} {u : Value} (hb : O ≠ p.block) (hv : w.cell? p = some u) : X.cell? p = some u := by
  obtain ⟨j, v, rfl⟩ := h
  rw [World.cell?_setCell_other w _ _ _ (fun e => hb (congrArg Addr.block e))]; exact hv
end
end

end Go.Proofs.Ytnbjjddfcondlaa

/- The walk over a list of what has been written: the frame stays behind a name from a function's head to its end. -/
namespace Go.Proofs.Ytnbjjddfcondlaa
open Go.RowKit

section
variable {P : Program} {n : Nat} {L : List Value} {ws : List (Nat × Value)} {w : World} {Q : Exit → Act → World → Prop}

/-- The frame has n slots, and what was written lies in them. -/
def Bd (n : Nat) (L : List Value) (ws : List (Nat × Value)) : Prop := L.length = n ∧ ∀ p ∈ ws, p.1 < n
theorem Bd.lt (h : Bd n L ws) : ∀ p ∈ ws, p.1 < L.length := fun p hp => by rw [h.1]; exact h.2 p hp
theorem Bd.put (h : Bd n L ws) {d : Nat} {v : Value} (hd : Nat.blt d n = true) : Bd n L ((d, v) :: ws) :=
  ⟨h.1, fun p hp => by rcases List.mem_cons.1 hp with rfl | hp; exact Nat.blt_eq.mp hd; exact h.2 p hp⟩
/-- (Structures, that no unifier opens them.) -/
structure CW (P : Program) (c : Code) (Q : Exit → Act → World → Prop) (n : Nat) (L : List Value) (ws : List (Nat × Value)) (w : World) : Prop where
  out : Bd n L ws → c.wp P Q ⟨(setAll L ws).toArray, []⟩ w
structure QW (Q : Exit → Act → World → Prop) (e : Exit) (n : Nat) (L : List Value) (ws : List (Nat × Value)) (w : World) : Prop where
  out : Bd n L ws → Q e ⟨(setAll L ws).toArray, []⟩ w
structure PL (P : Program) (ops rest : List Oper) (Q : Exit → Act → World → Prop) (n : Nat) (L : List Value) (ws : List (Nat × Value)) (w : World) : Prop where
  out : Bd n L ws → wpList P ops.toArray Q rest ⟨(setAll L ws).toArray, []⟩ w
structure WD (P : Program) (ops : Array Oper) (Q : Exit → Act → World → Prop) (S : World → Prop) (L : List Value) (fuel : Nat) (done : List Nat) (ws : List (Nat × Value)) (w : World) : Prop where
  out : W P ops Q S L [] fuel done ws w

theorem calls_cw {f : FuncId} {fn : Func} {c : Code} {av : List Value} {R : Ending → World → Prop} (n : Nat) (ws : List (Nat × Value)) (hf : P.funcs[f]? = some fn) (hb : fn.body = some c) (hn : fn.ntmps = n)
    (he : av ++ List.replicate (n - av.length) undef = setAll (List.replicate n undef) ws) (hl : ws.all (fun p => Nat.blt p.1 n) = true)
    (h : ∀ L, CW P c (bodyPost P fn R) n L ws w) : Calls P f av.toArray w R := by
  refine calls_of_wp hf hb ?_
  have e : (av.toArray ++ Array.replicate (fn.ntmps - av.toArray.size) undef : Array Value) = (setAll (List.replicate n undef) ws).toArray := by
    rw [hn, ← he]; simp
  rw [e]
  exact (h _).out ⟨List.length_replicate, fun p hp => Nat.blt_eq.mp (List.all_eq_true.1 hl p hp)⟩

theorem cw_seq {x y : Code} (h : CW P x (Exit.then (y.wp P Q) Q) n L ws w) : CW P (.seq x y) Q n L ws w := ⟨fun b => wp_seq (h.out b)⟩
theorem cw_block {id : Nat} {c : Code} (h : CW P c (Exit.inBlock id Q) n L ws w) : CW P (.block id c) Q n L ws w := ⟨fun b => wp_block (h.out b)⟩
theorem cw_skip (h : QW Q .normal n L ws w) : CW P .skip Q n L ws w := ⟨fun b => wp_skip (h.out b)⟩
theorem cw_exit {id : Nat} (h : QW Q (.exit id) n L ws w) : CW P (.exit id) Q n L ws w := ⟨fun b => wp_exit (h.out b)⟩
theorem cw_ret (h : QW Q .ret n L ws w) : CW P .ret Q n L ws w := ⟨fun b => wp_ret (h.out b)⟩
theorem cw_plain {id : Nat} {l : List Oper} (h : PL P l l Q n L ws w) : CW P (.region id l.toArray false) Q n L ws w := ⟨fun b => wp_region_lit (h.out b)⟩
theorem cw_t {c : Operand} {x y : Code} (hc : evalW L ws c = .bool true) (h : CW P x Q n L ws w) : CW P (.cond c x y) Q n L ws w := ⟨fun b => wp_cond_true (by rw [eval_W b.lt]; exact hc) (h.out b)⟩
theorem cw_f {c : Operand} {x y : Code} (hc : evalW L ws c = .bool false) (h : CW P y Q n L ws w) : CW P (.cond c x y) Q n L ws w := ⟨fun b => wp_cond_false (by rw [eval_W b.lt]; exact hc) (h.out b)⟩
theorem qw_then {y : Code} (h : CW P y Q n L ws w) : QW (Exit.then (y.wp P Q) Q) .normal n L ws w := ⟨h.out⟩
theorem qw_then_ret {K : Act → World → Prop} (h : QW Q .ret n L ws w) : QW (Exit.then K Q) .ret n L ws w := ⟨h.out⟩
theorem qw_then_exit {K : Act → World → Prop} {id : Nat} (h : QW Q (.exit id) n L ws w) : QW (Exit.then K Q) (.exit id) n L ws w := ⟨h.out⟩
theorem qw_block {id : Nat} (h : QW Q .normal n L ws w) : QW (Exit.inBlock id Q) .normal n L ws w := ⟨h.out⟩
theorem qw_block_ret {id : Nat} (h : QW Q .ret n L ws w) : QW (Exit.inBlock id Q) .ret n L ws w := ⟨h.out⟩
theorem qw_block_out {id : Nat} (h : QW Q .normal n L ws w) : QW (Exit.inBlock id Q) (.exit id) n L ws w := ⟨fun b => by
  show (if id = id then _ else _)
  rw [if_pos rfl]; exact h.out b⟩
/-- What a function returns: its result slots and cells. -/
def ResV (P : Program) (ev : Operand → Value) (w : World) : List ResultVar → List Value → Prop
  | [], [] => True
  | .tmp t :: rs, v :: vs => ev (.tmp t) = v ∧ ResV P ev w rs vs
  | .cell a t :: rs, v :: vs => (∃ ad, ev (.tmp a) = .pointer (some ad) ∧ (loadVar t ad).run P w = .ok v w) ∧ ResV P ev w rs vs
  | _, _ => False
def resOf : List Value → Value
  | [v] => v
  | vs => .tuple vs.toArray
theorem res_map {ev : Operand → Value} {g : ResultVar → Sem Value} (h1 : ∀ t, g (.tmp t) = pure (ev (.tmp t))) (h2 : ∀ b t, g (.cell b t) = do loadVar t (← asAddr (ev (.tmp b)))) :
    ∀ {rs : List ResultVar} {vs : List Value}, ResV P ev w rs vs → (rs.mapM g).run P w = .ok vs w
  | [], [], _ => by simp [go_sem]
  | .tmp t :: rs, v :: vs, h => by
    have ih := res_map h1 h2 h.2
    rw [List.mapM_cons, h1, h.1]
    simp [ih, Result.andThen]
  | .cell b t :: rs, v :: vs, h => by
    have ih := res_map h1 h2 h.2
    obtain ⟨ad, e1, e2⟩ := h.1
    rw [List.mapM_cons, h2, e1]
    simp [ih, asAddr, e2, Result.andThen]
theorem results_g (fn : Func) (tmps : Array Value) : ∃ g : ResultVar → Sem Value, (∀ t, g (.tmp t) = pure (tmps.getD t undef)) ∧ (∀ b t, g (.cell b t) = do loadVar t (← asAddr (tmps.getD b undef))) ∧
    results fn tmps = (do let vs ← fn.results.mapM g; pure (if h : vs.size = 1 then vs[0] else .tuple vs)) := ⟨_, fun _ => rfl, fun _ _ => rfl, rfl⟩
theorem res_run {fn : Func} {a : Act} {rs : List ResultVar} {vs : List Value} (hf : fn.results = rs.toArray) (h : ResV P a.eval w rs vs) : (results fn a.tmps).run P w = .ok (resOf vs) w := by
  obtain ⟨g, h1, h2, e⟩ := results_g fn a.tmps
  have := res_map (P := P) (w := w) (ev := a.eval) h1 h2 h
  rw [e, hf, List.mapM_toArray]
  simp only [Sem.run_bind, Sem.run_map, this, Result.andThen]
  match vs with
  | [] => rfl
  | [v] => rfl
  | u :: v :: r => simp [resOf]
theorem qw_ret {fn : Func} {R : Ending → World → Prop} {rs : List ResultVar} (vs : List Value) (hf : fn.results = rs.toArray) (h : ResV P (evalW L ws) w rs vs) (hR : R (.returned (resOf vs)) w) : QW (bodyPost P fn R) .ret n L ws w := ⟨fun b =>
  bodyPost_ret (res_run hf (by rw [eval_W b.lt]; exact h)) rfl hR⟩
/-! One operation. -/
def StepN (P : Program) (ev : Operand → Value) (oi : Oper) (w : World) (N : Value → World → Prop) : Prop :=
  (∃ v w', (execOp ev oi).run P w = .ok (.value v) w' ∧ N v w') ∨ (∃ w', (execOp ev oi).run P w = .ok .skip w' ∧ N undef w') ∨
  (∃ f args, (execOp ev oi).run P w = .ok (.enter f args) w ∧ Calls P f args w fun e w' => ∃ v, e = .returned v ∧ N v w')
theorem StepN.wp {ev : Operand → Value} {oi : Oper} {N : Value → World → Prop} {a : Act} {K : Act → World → Prop} (h : StepN P ev oi w N) (he : a.eval = ev) (hK : ∀ v w', N v w' → K (a.put oi.dst v) w') : Oper.wp P oi a w K Q := by
  unfold Oper.wp
  rw [he]
  rcases h with ⟨v, w', h1, h3⟩ | ⟨w', h1, h3⟩ | ⟨f, args, h1, h2⟩
  · rw [h1, Oper.upon_value]; exact hK v w' h3
  · rw [h1, Oper.upon_skip]; exact hK undef w' h3
  · rw [h1, Oper.upon_enter]
    exact h2.mono fun e w' ⟨v, he, hn⟩ => by subst he; exact hK v w' hn
theorem StepN.toW {S : World → Prop} {oi : Oper} {N : Value → World → Prop} (h : StepN P (evalW L ws) oi w fun v w' => S w' ∧ N v w') : StepW P S L ws oi w fun v w' => S w' → N v w' := by
  rcases h with ⟨v, w', h1, h3⟩ | ⟨w', h1, h3⟩ | ⟨f, args, h1, h2⟩
  · exact .inl ⟨v, w', h1, h3.1, fun _ => h3.2⟩
  · exact .inr (.inl ⟨w', h1, h3.1, fun _ => h3.2⟩)
  · exact .inr (.inr ⟨f, args, h1, h2.mono fun e w' ⟨v, he, hn⟩ => ⟨v, he, hn.1, fun _ => hn.2⟩⟩)
theorem sn_call {ev : Operand → Value} {oi : Oper} {N : Value → World → Prop} {f : FuncId} {args : Array Value} (h1 : (execOp ev oi).run P w = .ok (.enter f args) w) (h2 : Calls P f args w fun e w' => ∃ v, e = .returned v ∧ N v w') : StepN P ev oi w N := .inr (.inr ⟨f, args, h1, h2⟩)
theorem sn_eff {ev : Operand → Value} {oi : Oper} {N : Value → World → Prop} {v : Value} {w' : World} (h1 : (execOp ev oi).run P w = .ok (.value v) w') (h3 : N v w') : StepN P ev oi w N := .inl ⟨v, w', h1, h3⟩
theorem sn_skp {ev : Operand → Value} {oi : Oper} {N : Value → World → Prop} {w' : World} (h1 : (execOp ev oi).run P w = .ok .skip w') (h3 : N undef w') : StepN P ev oi w N := .inr (.inl ⟨w', h1, h3⟩)
theorem sn_new {ev : Operand → Value} {oi : Oper} {N : Value → World → Prop} {us : Array Value} {t : TypeId} (h1 : (execOp ev oi).run P w = .ok (.value (.pointer (some ⟨w.heap.size, 0, none⟩))) (w.alloc (.cells us t)))
    (h : ∀ O X, w.heap.size = O → X.heap.size = O + 1 → Ext w X → (∀ i u, us[i]? = some u → BoxAt X O i u) → N (.pointer (some ⟨O, 0, none⟩)) X) : StepN P ev oi w N := by
  refine sn_eff h1 (h _ _ rfl (by simp) (Ext.alloc (Ext.refl _) _) (fun i u hu => ⟨?_, ?_⟩))
  · rw [cell_of_row _ _ i _ t (0, 0) (heap_alloc_new w _)]; exact hu
  · simp [go_sem]
theorem sn_newS {ev : Operand → Value} {oi : Oper} {N : Value → World → Prop} {us : Array Value} {t : TypeId} {k c : Nat} (h1 : (execOp ev oi).run P w = .ok (.value (.slice (some ⟨w.heap.size, 0, none⟩) k c)) (w.alloc (.cells us t)))
    (h : ∀ O X, w.heap.size = O → X.heap.size = O + 1 → Ext w X → (∀ i u, us[i]? = some u → BoxAt X O i u) → N (.slice (some ⟨O, 0, none⟩) k c) X) : StepN P ev oi w N := by
  refine sn_eff h1 (h _ _ rfl (by simp) (Ext.alloc (Ext.refl _) _) (fun i u hu => ⟨?_, ?_⟩))
  · rw [cell_of_row _ _ i _ t (0, 0) (heap_alloc_new w _)]; exact hu
  · simp [go_sem]
/-! A region whose order is fixed. -/
def wantP (ops : List Oper) (L : List Value) (ws : List (Nat × Value)) : Option (Nat × Bool) → Bool
  | none => true
  | some (g, want) => match ops.drop g with
    | o :: _ => (match o.dst with | some d => (match look ws (base L) d with | .bool b => b == want | _ => false) | none => false)
    | [] => false
theorem wantP_spec {ops : List Oper} {o : Oper} {b : Bool} (h : Bd n L ws) (hok : ∀ x ∈ ops, ∀ d, x.dst = some d → d < n) (hw : wantP ops L ws o.guard = b) :
    Region.wanted o (yielded ops.toArray (⟨(setAll L ws).toArray, []⟩ : Act).tmps) = b := by
  subst hw
  unfold Region.wanted wantP
  cases hgd : o.guard with
  | none => rfl
  | some p =>
    obtain ⟨g, want⟩ := p
    have ho : ops.toArray[g]? = ops[g]? := by simp
    simp only [yielded, ho]
    cases hj : ops[g]? with
    | none =>
      have : ops.drop g = [] := by
        rw [List.drop_eq_nil_iff]
        rcases Nat.lt_or_ge g ops.length with h1 | h1
        · rw [List.getElem?_eq_getElem h1] at hj; cases hj
        · exact h1
      rw [this]; rfl
    | some og =>
      obtain ⟨r, hr⟩ := drop_get hj
      rw [hr]
      simp only [Option.bind_some]
      cases hd : og.dst with
      | none => rfl
      | some d =>
        have hlt : d < n := hok og (List.mem_of_getElem? hj) d hd
        have hget := setAll_get L ws h.lt d
        have hlt2 : d < (setAll L ws).toArray.size := by simp [setAll_len, h.1, hlt]
        simp only [Array.getD, hlt2, dif_pos] at hget
        simp only [Option.bind_some]
        rw [Array.getElem?_eq_getElem hlt2]
        have e : (setAll L ws).toArray[d] = look ws (base L) d := hget
        rw [e]
        cases look ws (base L) d <;> rfl
/-- All slots that a region writes lie in the frame. -/
def dstOk (n : Nat) : List Oper → Bool
  | [] => true
  | o :: r => (match o.dst with | some d => Nat.blt d n | none => true) && dstOk n r
theorem dstOk_spec {ops : List Oper} (h : dstOk n ops = true) : ∀ x ∈ ops, ∀ d, x.dst = some d → d < n := by
  induction ops with
  | nil => intro x hx; cases hx
  | cons o r ih =>
    unfold dstOk at h
    obtain ⟨h1, h2⟩ := Bool.and_eq_true_iff.1 h
    intro x hx d hd
    rcases List.mem_cons.1 hx with e | hx
    · rw [← e, hd] at h1; exact Nat.blt_eq.mp h1
    · exact ih h2 x hx d hd
theorem pl_nil {ops : List Oper} (h : QW Q .normal n L ws w) : PL P ops [] Q n L ws w := ⟨h.out⟩
theorem pl_take {ops rest : List Oper} {o : Oper} {d : Nat} (v : Value) (hdst : o.dst = some d) (hok : dstOk n ops = true) (hd : Nat.blt d n = true) (hw : wantP ops L ws o.guard = true)
    (hr : (execOp (evalW L ws) o).run P w = .ok (.value v) w) (h : PL P ops rest Q n L ((d, v) :: ws) w) : PL P ops (o :: rest) Q n L ws w := ⟨fun b => by
  refine wpList_step fun K hK => ?_
  rw [if_pos (wantP_spec b (dstOk_spec hok) hw)]
  unfold Oper.wp
  rw [eval_W b.lt, hr, Oper.upon_value]
  refine hK _ _ ?_
  rw [put_W, hdst]; exact h.out (b.put hd)⟩
theorem pl_skip {ops rest : List Oper} {o : Oper} {d : Nat} (hdst : o.dst = some d) (hok : dstOk n ops = true) (hd : Nat.blt d n = true) (hw : wantP ops L ws o.guard = false)
    (h : PL P ops rest Q n L ((d, undef) :: ws) w) : PL P ops (o :: rest) Q n L ws w := ⟨fun b => by
  refine wpList_step fun K hK => ?_
  rw [if_neg (by rw [wantP_spec b (dstOk_spec hok) hw]; simp)]
  refine hK _ _ ?_
  rw [put_W, hdst]; exact h.out (b.put hd)⟩
theorem pl_step {ops rest : List Oper} {o : Oper} {d : Nat} (hdst : o.dst = some d) (hok : dstOk n ops = true) (hd : Nat.blt d n = true) (hw : wantP ops L ws o.guard = true)
    (h : StepN P (evalW L ws) o w fun v w' => PL P ops rest Q n L ((d, v) :: ws) w') : PL P ops (o :: rest) Q n L ws w := ⟨fun b => by
  refine wpList_step fun K hK => ?_
  rw [if_pos (wantP_spec b (dstOk_spec hok) hw)]
  exact h.wp (eval_W b.lt []) fun v w' hn => hK _ _ (by rw [put_W, hdst]; exact hn.out (b.put hd))⟩
theorem pl_put {ops rest : List Oper} {o : Oper} (hdst : o.dst = none) (hok : dstOk n ops = true) (hw : wantP ops L ws o.guard = true)
    (h : StepN P (evalW L ws) o w fun _ w' => PL P ops rest Q n L ws w') : PL P ops (o :: rest) Q n L ws w := ⟨fun b => by
  refine wpList_step fun K hK => ?_
  rw [if_pos (wantP_spec b (dstOk_spec hok) hw)]
  exact h.wp (eval_W b.lt []) fun v w' hn => hK _ _ (by rw [put_W, hdst]; exact hn.out b)⟩
/-! A region that draws its order. -/
def Calm (Q : Exit → Act → World → Prop) : Prop := ∀ c d v a w, Q (.panic c) (Act.put a d v) w → Q (.panic c) a w
theorem calm_then {K : Act → World → Prop} (h : Calm Q) : Calm (Exit.then K Q) := fun c d v a w h' => h c d v a w h'
theorem calm_block {id : Nat} (h : Calm Q) : Calm (Exit.inBlock id Q) := fun c d v a w h' => h c d v a w h'
theorem calm_body {fn : Func} {R : Ending → World → Prop} : Calm (bodyPost P fn R) := fun c d v a w h => by cases d <;> exact h
theorem cw_draw {id : Nat} {ops0 : Array Oper} (T : List Row) (S : World → Prop) (hm : P.follows .mixedOrders = true) (ht : tableR ops0 = T) (hg : goodT n ops0.size T = true) (hs : Region.noSelect ops0 = true) (hQ : Calm Q) (hS : S w.drew)
    (h : ∀ (ops : Array Oper) (Q' : Exit → Act → World → Prop) (X : World), Ext w X → L.length = n → Reg P ops0 ops Q' L T → Shut (∀ ws w, QW Q .normal n L ws w → QW Q' .normal n L ws w) → WD P ops Q' S L ops0.size [] ws X) : CW P (.region id ops0 true) Q n L ws w := ⟨fun b => by
  refine wp_region_held_drew hm hS fun hS => ?_
  exact (h ops0 Q _ (Ext.drew (Ext.refl _)) b.1 ⟨rfl, ht, by rw [b.1]; exact hg, hs, hQ⟩ (fun _ _ h => h)).out b.lt⟩
variable {ops0 ops : Array Oper} {Q' : Exit → Act → World → Prop} {T : List Row} {S : World → Prop} {fuel : Nat} {done : List Nat}
theorem StepN.toD {S : World → Prop} {oi : Oper} {L' : Value → List (Nat × Value)} {Q' : Exit → Act → World → Prop} {ops : Array Oper} {fuel : Nat} {done : List Nat} (h : StepN P (evalW L ws) oi w fun v w' => S w' ∧ WD P ops Q' S L fuel done (L' v) w') : StepW P S L ws oi w fun v w' => S w' → W P ops Q' S L [] fuel done (L' v) w' :=
  StepN.toW (N := fun v w' => W P ops Q' S L [] fuel done (L' v) w') (by
    rcases h with ⟨v, w', h1, h3⟩ | ⟨w', h1, h3⟩ | ⟨f, args, h1, h2⟩
    · exact .inl ⟨v, w', h1, h3.1, h3.2.out⟩
    · exact .inr (.inl ⟨w', h1, h3.1, h3.2.out⟩)
    · exact .inr (.inr ⟨f, args, h1, h2.mono fun e w' ⟨v, he, hn⟩ => ⟨v, he, hn.1, hn.2.out⟩⟩))
theorem wd_end (hL : L.length = n) (hR : Reg P ops0 ops Q' L T) (hK : Shut (∀ ws w, QW Q .normal n L ws w → QW Q' .normal n L ws w)) (hd : upT done (numbered T 0) = []) (h : QW Q .normal n L ws w) : WD P ops Q' S L fuel done ws w := ⟨fun hb => by
  refine wpAnyH_done ?_ ?_ fuel
  · rw [List.eq_nil_iff_forall_not_mem]
    intro j hj
    have := ready_up hR hj
    rw [hd] at this; cases this
  · exact (hK _ _ h).out ⟨hL, fun p hp => by rw [← hL]; exact hb p hp⟩⟩
theorem wd_take (i : Nat) {d : Nat} {oi : Oper} {r : List Oper} (v : Value) (hR : Reg P ops0 ops Q' L T) (hi : ops0.toList.drop i = oi :: r) (hr : readyT T done i = true) (hdst : oi.dst = some d)
    (hw : wantedW T L ws oi.guard = true) (hy : ∀ w, S w → (execOp (evalW L ws) oi).run P w = .ok (.value v) w) (hS : S w)
    (h : WD P ops Q' S L fuel (i :: done) ((d, v) :: ws) w) : WD P ops Q' S L (fuel + 1) done ws w := ⟨wg_take i hR hi hr hw hy hS (by rw [hdst]; exact h.out)⟩
theorem wd_skip (i : Nat) {d : Nat} {oi : Oper} {r : List Oper} (hR : Reg P ops0 ops Q' L T) (hi : ops0.toList.drop i = oi :: r) (hr : readyT T done i = true) (hdst : oi.dst = some d)
    (hw : wantedW T L ws oi.guard = false) (hS : S w)
    (h : WD P ops Q' S L fuel (i :: done) ((d, undef) :: ws) w) : WD P ops Q' S L (fuel + 1) done ws w := ⟨wg_skip i hR hi hr hw hS (by rw [hdst]; exact h.out)⟩
theorem wd_step (i : Nat) {oi : Oper} {r : List Oper} (hR : Reg P ops0 ops Q' L T) (hi : ops0.toList.drop i = oi :: r) (hr : upT done (numbered T 0) = [i]) (hr2 : readyT T done i = true)
    (hw : wantedW T L ws oi.guard = true) (h : StepN P (evalW L ws) oi w fun v w' => S w' ∧ WD P ops Q' S L fuel (i :: done) (putW oi.dst v ws) w') : WD P ops Q' S L (fuel + 1) done ws w := ⟨wg_step i hR hi hr hw h.toD hr2⟩
theorem wd_two (i j : Nat) {oi oj : Oper} {r s : List Oper} (hR : Reg P ops0 ops Q' L T) (hi : ops0.toList.drop i = oi :: r) (hj : ops0.toList.drop j = oj :: s) (hr : upT done (numbered T 0) = [i, j]) (hr2 : readyT T done i = true)
    (hwi : wantedW T L ws oi.guard = true) (hwj : wantedW T L ws oj.guard = true)
    (h1 : StepN P (evalW L ws) oi w fun v w' => S w' ∧ WD P ops Q' S L fuel (i :: done) (putW oi.dst v ws) w')
    (h2 : StepN P (evalW L ws) oj w fun v w' => S w' ∧ WD P ops Q' S L fuel (j :: done) (putW oj.dst v ws) w') : WD P ops Q' S L (fuel + 1) done ws w := ⟨wg_two i j hR hi hj hr hwi hwj hr2 h1.toD h2.toD⟩
/-! What of the frame is kept: the rest is forgotten. -/
def pickW (ws : List (Nat × Value)) : List Nat → Option (List (Nat × Value))
  | [] => some []
  | k :: ks => match lookO ws k, pickW ws ks with
    | some v, some r => some ((k, v) :: r)
    | _, _ => none
theorem pick_look : ∀ {ks : List Nat} {ws' : List (Nat × Value)}, pickW ws ks = some ws' → ∀ t v, lookO ws' t = some v → lookO ws t = some v
  | [], ws', h, t, v, ht => by cases h; cases ht
  | k :: ks, ws', h, t, v, ht => by
    unfold pickW at h
    cases e1 : lookO ws k with
    | none => rw [e1] at h; cases h
    | some u =>
      cases e2 : pickW ws ks with
      | none => rw [e1, e2] at h; cases h
      | some r =>
        rw [e1, e2] at h; cases h
        unfold lookO at ht
        by_cases e : t = k
        · rw [if_pos e] at ht; subst e; rw [e1]; exact ht
        · rw [if_neg e] at ht; exact pick_look e2 t v ht
theorem look_mem : ∀ {ws : List (Nat × Value)} {t : Nat} {v : Value}, lookO ws t = some v → (t, v) ∈ ws
  | (d, u) :: r, t, v, h => by
    unfold lookO at h
    by_cases e : t = d
    · rw [if_pos e] at h; cases h; subst e; exact List.mem_cons_self
    · rw [if_neg e] at h; exact List.mem_cons_of_mem _ (look_mem h)
theorem mem_look : ∀ {ws : List (Nat × Value)} {p : Nat × Value}, p ∈ ws → ∃ v, lookO ws p.1 = some v
  | (d, u) :: r, p, h => by
    by_cases e : p.1 = d
    · exact ⟨u, by rw [lookO, if_pos e]⟩
    · rcases List.mem_cons.1 h with rfl | h
      · exact absurd rfl e
      · obtain ⟨v, hv⟩ := mem_look h
        exact ⟨v, by rw [lookO, if_neg e, hv]⟩
theorem pick_set {ks : List Nat} {ws' : List (Nat × Value)} (h : pickW ws ks = some ws') : setAll (setAll L ws) ws' = setAll L ws := by
  refine List.ext_getElem? fun t => ?_
  rw [setAll_get?, setAll_len]
  split
  · rename_i ht
    cases e : lookO ws' t with
    | none => simp
    | some v =>
      have := pick_look h t v e
      rw [setAll_get?, if_pos ht, this]; rfl
  · rename_i ht
    rw [setAll_get?, if_neg ht]
theorem pick_bd {ks : List Nat} {ws' : List (Nat × Value)} (h : pickW ws ks = some ws') (b : Bd n L ws) : Bd n (setAll L ws) ws' :=
  ⟨by rw [setAll_len]; exact b.1, fun p hp => by
    obtain ⟨v, hv⟩ := mem_look hp
    exact b.2 (p.1, v) (look_mem (pick_look h _ _ hv))⟩
theorem cw_clean {c : Code} (ks : List Nat) {ws' : List (Nat × Value)} (hp : pickW ws ks = some ws') (h : ∀ L', CW P c Q n L' ws' w) : CW P c Q n L ws w := ⟨fun b => by
  have := (h (setAll L ws)).out (pick_bd hp b)
  rwa [pick_set hp] at this⟩
/-- Several ways, one continuation. -/
theorem cw_join {c : Code} (R : List (Nat × Value) → World → Prop) (main : (∀ L' ws' w', R ws' w' → QW Q .normal n L' ws' w') → CW P c Q n L ws w) (rest : ∀ L' ws' w', R ws' w' → QW Q .normal n L' ws' w') : CW P c Q n L ws w := main rest
theorem qw_leaf {R : List (Nat × Value) → World → Prop} (hJ : ∀ L' ws' w', R ws' w' → QW Q .normal n L' ws' w') (ks : List Nat) {ws' : List (Nat × Value)} (hp : pickW ws ks = some ws') (h : R ws' w) : QW Q .normal n L ws w := ⟨fun b => by
  have := (hJ (setAll L ws) ws' w h).out (pick_bd hp b)
  rwa [pick_set hp] at this⟩

/-! Loops. -/
theorem least {p : Nat → Prop} : (∃ m, p m) → ∃ m, p m ∧ ∀ k, p k → m ≤ k := by
  rintro ⟨m, hm⟩
  induction m using Nat.strongRecOn with
  | _ m ih =>
    by_cases h : ∃ k, k < m ∧ p k
    · obtain ⟨k, hk, hp⟩ := h; exact ih k hk hp
    · exact ⟨m, hm, fun k hk => Nat.le_of_not_lt fun hlt => h ⟨k, hlt, hk⟩⟩
def LoopK (n : Nat) (Inv : List (Nat × Value) → World → Nat → Prop) (m : Nat) : Act → World → Prop := fun a w => ∃ L' ws' m', m' < m ∧ Bd n L' ws' ∧ a = ⟨(setAll L' ws').toArray, []⟩ ∧ Inv ws' w m'
open Classical in
theorem cw_loop {c : Code} (ks : List Nat) (Inv : List (Nat × Value) → World → Nat → Prop) {ws0 : List (Nat × Value)} (hp : pickW ws ks = some ws0) (m0 : Nat) (h0 : Inv ws0 w m0)
    (round : ∀ m L' ws' w', Inv ws' w' m → CW P c (Exit.then (LoopK n Inv m) Q) n L' ws' w') : CW P (.loop c) Q n L ws w := ⟨fun b => by
  let J : Nat → Act → World → Prop := fun m a w => ∃ L' ws', Bd n L' ws' ∧ a = ⟨(setAll L' ws').toArray, []⟩ ∧ Inv ws' w m
  let μ : Act → World → Nat := fun a w => if h : ∃ m, J m a w then Classical.choose (least h) else 0
  have hμ : ∀ a w (h : ∃ m, J m a w), J (μ a w) a w ∧ ∀ k, J k a w → μ a w ≤ k := fun a w h => by
    have e : μ a w = Classical.choose (least h) := dif_pos h
    rw [e]; exact Classical.choose_spec (least h)
  refine wp_loop (fun a w => ∃ m, J m a w) μ ⟨m0, setAll L ws, ws0, pick_bd hp b, by rw [pick_set hp], h0⟩ fun a w h => ?_
  obtain ⟨⟨L', ws', hb, ha, hI⟩, _⟩ := hμ a w h
  have := (round (μ a w) L' ws' w hI).out hb
  rw [← ha] at this
  refine Code.wp_mono (fun e a' w' q => ?_) this
  cases e with
  | normal =>
    obtain ⟨L2, ws2, m2, hlt, hb2, ha2, hI2⟩ := q
    have hJ : J m2 a' w' := ⟨L2, ws2, hb2, ha2, hI2⟩
    exact ⟨⟨m2, hJ⟩, Nat.lt_of_le_of_lt ((hμ a' w' ⟨m2, hJ⟩).2 m2 hJ) hlt⟩
  | _ => exact q⟩
theorem qw_round {Inv : List (Nat × Value) → World → Nat → Prop} {m : Nat} (ks : List Nat) {ws' : List (Nat × Value)} (hp : pickW ws ks = some ws') (m' : Nat) (hlt : m' < m) (h : Inv ws' w m') : QW (Exit.then (LoopK n Inv m) Q) .normal n L ws w := ⟨fun b =>
  ⟨setAll L ws, ws', m', hlt, pick_bd hp b, by rw [pick_set hp], h⟩⟩
end

section
variable {P : Program} {n : Nat} {L : List Value} {ws : List (Nat × Value)} {w : World} {Q : Exit → Act → World → Prop}
theorem pT {ops rest : List Oper} {o : Oper} {d : Nat} (v : Value) (h : PL P ops rest Q n L ((d, v) :: ws) w) (hdst : o.dst = some d := by rfl) (hok : dstOk n ops = true := by kernel_rfl) (hd : Nat.blt d n = true := by kernel_rfl) (hw : wantP ops L ws o.guard = true := by kernel_rfl)
    (hr : (execOp (evalW L ws) o).run P w = .ok (.value v) w := by kernel_rfl) : PL P ops (o :: rest) Q n L ws w := pl_take v hdst hok hd hw hr h
end
end Go.Proofs.Ytnbjjddfcondlaa

/- Operations: what they yield, in the forms that the walk over a list of writes wants. -/
namespace Go.Proofs.Ytnbjjddfcondlaa
open Go.RowKit

section
variable {P : Program} {ev : Operand → Value} {o : Oper} {w : World}
theorem ex_load {t : TypeId} {x : Operand} {p v : Value} (hop : o.op = .load t x) (hx : ev x = p) (h : (Instr.loadAt t p).run P w = .ok v w) : (execOp ev o).run P w = .ok (.value v) w := by
  simp [execOp, hop, hx, h, Result.andThen]
theorem ex_store {t : TypeId} {x y : Operand} {p v : Value} {w' : World} (hop : o.op = .store t x y) (hx : ev x = p) (hy : ev y = v) (h : (Instr.storeAt t p v).run P w = .ok () w') : (execOp ev o).run P w = .ok .skip w' := by
  simp [execOp, hop, hx, hy, h, Result.andThen]
theorem ex_index {t : TypeId} {x y : Operand} {p i v : Value} (hop : o.op = .indexAddr t x y) (hx : ev x = p) (hy : ev y = i) (h : (Instr.indexAt t p i).run P w = .ok v w) : (execOp ev o).run P w = .ok (.value v) w := by
  simp [execOp, hop, hx, hy, h, Result.andThen]
theorem ex_slice {t : TypeId} {x : Operand} {lo hi mx : Option Operand} {lv hv mv : Option Value} {p v : Value} (hop : o.op = .slice t x lo hi mx) (hx : ev x = p) (h1 : lo.map ev = lv) (h2 : hi.map ev = hv) (h3 : mx.map ev = mv)
    (h : (Instr.sliceAt t p lv hv mv).run P w = .ok v w) : (execOp ev o).run P w = .ok (.value v) w := by
  simp [execOp, hop, hx, h1, h2, h3, h, Result.andThen]
theorem ev_wrap {a : Int} {r : Result Next} (h : r = .ok (.value (.int .i64 (IntKind.i64.wrap a))) w) (h0 : -9223372036854775808 ≤ a) (h1 : a ≤ 9223372036854775807) : r = .ok (.value (.int .i64 a)) w := by
  have e : IntKind.i64.wrap a = a := by rw [IntKind.wrap_i64]; omega
  rw [h, e]
theorem ev_int {a b : Int} {k : IntKind} {r : Result Next} (h : r = .ok (.value (.int k a)) w) (e : a = b) : r = .ok (.value (.int k b)) w := by rw [h, e]
theorem ev_bool {b b' : Bool} {r : Result Next} (h : r = .ok (.value (.bool b)) w) (e : b = b') : r = .ok (.value (.bool b')) w := by rw [h, e]
theorem ev_dec {p : Prop} [Decidable p] {r : Result Next} (h : r = .ok (.value (.bool (decide p))) w) (e : p) : r = .ok (.value (.bool true)) w := by rw [h, decide_eq_true e]
theorem ev_ndec {p : Prop} [Decidable p] {r : Result Next} (h : r = .ok (.value (.bool (decide p))) w) (e : ¬ p) : r = .ok (.value (.bool false)) w := by rw [h, decide_eq_false e]
theorem ev_eq {a b : Int} {r : Result Next} (h : r = .ok (.value (.bool (a == b))) w) (e : a = b) : r = .ok (.value (.bool true)) w := by rw [h, e]; simp
theorem ev_neq {a b : Int} {r : Result Next} (h : r = .ok (.value (.bool (a == b))) w) (e : a ≠ b) : r = .ok (.value (.bool false)) w := by rw [h]; simp [e]
theorem ev_ne {a b : Int} {r : Result Next} (h : r = .ok (.value (.bool (a != b))) w) (e : a ≠ b) : r = .ok (.value (.bool true)) w := by rw [h]; simp [e]
theorem ev_nne {a b : Int} {r : Result Next} (h : r = .ok (.value (.bool (a != b))) w) (e : a = b) : r = .ok (.value (.bool false)) w := by rw [h, e]; simp
end

theorem res_ld {P : Program} {t : TypeId} {ad : Addr} {v : Value} {w : World} (h : (Instr.loadAt t (.pointer (some ad))).run P w = .ok v w) : (loadVar t ad).run P w = .ok v w := h

/-! Sums and bits of naturals. -/
theorem ex_bin {P : Program} {ev : Operand → Value} {o : Oper} {w : World} {op : BinOp} {t t2 : TypeId} {x y : Operand} {a b : Int} {v : Value} (hop : o.op = .binOp op t x y t2) (hx : ev x = .int .i64 a) (hy : ev y = .int .i64 b)
    (h : (binOp op t (.int .i64 a) (.int .i64 b)).run P w = .ok v w) : (execOp ev o).run P w = .ok (.value v) w := by
  have e : (eqGuard op t x y (.int .i64 a) (.int .i64 b)).run P w = .ok () w := by cases op <;> simp [eqGuard]
  simp [execOp, hop, hx, hy, e, h, Result.andThen]
theorem bin_shr {P : Program} {w : World} {t : TypeId} {S i : Nat} (_hi : i < 64) : (binOp .shr t (.int .i64 (S : Int)) (.int .i64 (i : Int))).run P w = .ok (.int .i64 ((S / 2 ^ i : Nat) : Int)) w := by
  have h0 : ¬ ((i : Int) < 0) := by omega
  have h1 : min (i : Int).toNat 64 = i := by simp; omega
  have e : (S : Int).fdiv (2 ^ i) = ((S / 2 ^ i : Nat) : Int) := by
    rw [Int.fdiv_eq_ediv_of_nonneg _ (by exact Int.le_of_lt (Int.pow_pos (by decide)))]; simp
  simp only [binOp, Op.shift, if_neg h0, IntKind.bits, h1, e]
  rfl
theorem bin_shl1 {P : Program} {w : World} {t : TypeId} {i : Nat} (hi : i < 62) : (binOp .shl t (.int .i64 1) (.int .i64 (i : Int))).run P w = .ok (.int .i64 ((2 ^ i : Nat) : Int)) w := by
  have h0 : ¬ ((i : Int) < 0) := by omega
  have h1 : min (i : Int).toNat 64 = i := by simp; omega
  have h2 : (2 ^ i : Nat) < 2 ^ 62 := Nat.pow_lt_pow_right (by decide) hi
  have e : IntKind.i64.wrap (1 * 2 ^ i) = ((2 ^ i : Nat) : Int) := by
    rw [Int.one_mul, show ((2 : Int) ^ i) = ((2 ^ i : Nat) : Int) by simp, IntKind.wrap_i64]
    generalize (2 ^ i : Nat) = k at h2 ⊢
    omega
  simp only [binOp, Op.shift, if_neg h0, IntKind.bits, h1, e]
  rfl
theorem bin_rem {P : Program} {w : World} {t : TypeId} {a b : Nat} (hb : 0 < b) : (binOp .rem t (.int .i64 (a : Int)) (.int .i64 (b : Int))).run P w = .ok (.int .i64 ((a % b : Nat) : Int)) w := by
  have h0 : ¬ ((b : Int) = 0) := by omega
  have e : (a : Int).tmod (b : Int) = ((a % b : Nat) : Int) := by rw [Int.tmod_eq_emod_of_nonneg (by omega)]; simp
  simp only [binOp, Op.intDiv, if_neg h0, e]
  simp
theorem bin_tdiv {P : Program} {w : World} {t : TypeId} {a b : Int} (hb : 0 < b) (h0 : -9223372036854775808 ≤ a) (h1 : a ≤ 9223372036854775807) : (binOp .quo t (.int .i64 a) (.int .i64 b)).run P w = .ok (.int .i64 (a.tdiv b)) w := by
  have hne : ¬ b = 0 := by omega
  have h2 : (a.tdiv b).natAbs ≤ a.natAbs := by rw [Int.natAbs_tdiv]; exact Nat.div_le_self _ _
  have e2 : IntKind.i64.wrap (a.tdiv b) = a.tdiv b := by
    rw [IntKind.wrap_i64]
    have h3 : 0 ≤ a → 0 ≤ a.tdiv b := fun h => Int.tdiv_nonneg h (by omega)
    have h4 : a ≤ 0 → a.tdiv b ≤ 0 := fun h => by
      have := Int.tdiv_nonneg (a := -a) (b := b) (by omega) (by omega)
      rw [Int.neg_tdiv] at this; omega
    generalize a.tdiv b = q at h2 h3 h4 ⊢
    omega
  simp only [binOp, Op.intDiv, if_neg hne, e2]
  simp
/-- In the world X nothing but some cells of block O has turned. -/
structure Turns (O : Nat) (w X : World) : Prop where
  size : X.heap.size = w.heap.size
  cell' : ∀ p : Addr, p.block ≠ O → X.cell? p = w.cell? p
  froz' : ∀ p : Addr, X.frozen? p = w.frozen? p
  ext' : ∀ a, Ext a w → a.heap.size ≤ O → Ext a X
  heap' : ∀ k, k ≠ O → X.heap[k]? = w.heap[k]?
  oth' : ∀ o : Obj, w.heap[O]? = some o → o.isCells = false → X.heap[O]? = some o
theorem Turns.ext {O : Nat} {a w X : World} (h : Turns O w X) (hE : Ext a w) (hO : a.heap.size ≤ O) : Ext a X := h.ext' a hE hO
theorem Turns.cell {O : Nat} {w X : World} (h : Turns O w X) {p : Addr} {u : Value} (hb : O ≠ p.block) (hv : w.cell? p = some u) : X.cell? p = some u := by
  rw [h.cell' p (fun e => hb e.symm)]; exact hv
theorem Turns.va {O : Nat} {w X : World} (h : Turns O w X) {b o : Nat} {l : List Int} (hb : O ≠ b) (hv : VA w b o l) : VA X b o l := ⟨fun i hi => h.cell hb (hv.1 i hi), hv.2⟩
theorem Turns.box {O : Nat} {w X : World} (h : Turns O w X) {b o : Nat} {u : Value} (hb : O ≠ b) (hv : BoxAt w b o u) : BoxAt X b o u := ⟨h.cell hb hv.1, by rw [h.froz']; exact hv.2⟩
theorem Turns.rows {O : Nat} {w X : World} (h : Turns O w X) {b : Nat} {l : List Int} (hb : O ≠ b) (hv : RowsAt w b l) : RowsAt X b l := ⟨hv.1, fun i hi => h.cell hb (hv.cell hi), fun i hi => by rw [h.froz']; exact hv.free hi⟩
theorem turns_set (w : World) (O j : Nat) (v : Value) : Turns O w (w.setCell ⟨O, j, none⟩ v) :=
  ⟨by simp, fun p hp => World.cell?_setCell_other w _ _ _ (fun e => hp (congrArg Addr.block e).symm), fun p => by simp [go_sem], fun _ hE hO => hE.setCell hO v, fun k hk => Below.heap_setCell _ _ _ _ (fun e => hk e), fun o ho hc => by
    have h2 : (w.setCell ⟨O, j, none⟩ v).heap[O]? = _ := Array.getElem?_modify
    rw [h2, if_pos rfl, ho]
    cases o <;> first | rfl | simp [Obj.isCells] at hc⟩
theorem Turns.trans {O : Nat} {a b c : World} (h : Turns O a b) (k : Turns O b c) : Turns O a c :=
  ⟨k.size.trans h.size, fun p hp => (k.cell' p hp).trans (h.cell' p hp), fun p => (k.froz' p).trans (h.froz' p), fun x hE hO => k.ext' x (h.ext' x hE hO) hO, fun i hi => (k.heap' i hi).trans (h.heap' i hi), fun o ho hc => k.oth' o (h.oth' o ho hc) hc⟩
section
variable {P : Program} {ev : Operand → Value} {oi : Oper} {w : World} {N : Value → World → Prop}
/-- A store into a box of the call's own: the world goes under a name. -/
theorem sn_set {O j : Nat} {u v : Value} (h1 : (execOp ev oi).run P w = .ok .skip (w.setCell ⟨O, j, none⟩ v)) (hO : BoxAt w O j u)
    (h : ∀ X, Turns O w X → BoxAt X O j v → (∀ i x, i ≠ j → BoxAt w O i x → BoxAt X O i x) → N undef X) : StepN P ev oi w N := by
  have hB : BoxAt (w.setCell ⟨O, j, none⟩ v) O j v := ⟨by have := hO.1; simp [go_sem, this], by have := hO.2; simpa [go_sem] using this⟩
  exact sn_skp h1 (h _ (turns_set _ _ _ _) hB fun i x hi hx => ⟨by rw [World.cell?_setCell_other w _ _ _ (fun e => hi (congrArg Addr.off e).symm)]; exact hx.1, by simp [go_sem, hx.2]⟩)
theorem sn_set2 {O j : Nat} {u u' v v' : Value} (h1 : (execOp ev oi).run P w = .ok .skip ((w.setCell ⟨O, j, none⟩ v).setCell ⟨O, j + 1, none⟩ v')) (hO : BoxAt w O j u) (hO' : BoxAt w O (j + 1) u')
    (h : ∀ X, Turns O w X → BoxAt X O j v → BoxAt X O (j + 1) v' → (∀ i x, i ≠ j → i ≠ j + 1 → BoxAt w O i x → BoxAt X O i x) → N undef X) : StepN P ev oi w N := by
  have k : ∀ (W : World) (j : Nat) (u v : Value), BoxAt W O j u → BoxAt (W.setCell ⟨O, j, none⟩ v) O j v := fun W j u v hO => ⟨by have := hO.1; simp [go_sem, this], by have := hO.2; simpa [go_sem] using this⟩
  have k2 : ∀ (W : World) (j i : Nat) (x v : Value), i ≠ j → BoxAt W O i x → BoxAt (W.setCell ⟨O, j, none⟩ v) O i x := fun W j i x v hi hx => ⟨by rw [World.cell?_setCell_other W _ _ _ (fun e => hi (congrArg Addr.off e).symm)]; exact hx.1, by simp [go_sem, hx.2]⟩
  exact sn_skp h1 (h _ ((turns_set _ _ _ _).trans (turns_set _ _ _ _)) (k2 _ _ _ _ _ (by omega) (k _ _ _ _ hO)) (k _ _ _ _ (k2 _ _ _ _ _ (by omega) hO')) fun i x hi hi' hx => k2 _ _ _ _ _ hi' (k2 _ _ _ _ _ hi hx))
end
section
variable {P : Program} {n : Nat} {L : List Value} {ws : List (Nat × Value)} {w : World} {Q : Exit → Act → World → Prop}
end
end Go.Proofs.Ytnbjjddfcondlaa

/- The walk, where it is wanted to the draw and to the block how the world has grown (a comparison that is handed to a sort). -/
namespace Go.Proofs.Ytnbjjddfcondlaa
open Go.RowKit

/-- The world has drawn, and blocks have come; nothing else. -/
def Gro (w w' : World) : Prop := ∃ q os, w' = Go.Sort.grow (w.drewN q) os
theorem Gro.refl (w : World) : Gro w w := ⟨0, #[], by rw [Go.Sort.grow_empty]; rfl⟩
theorem Gro.trans {a b c : World} (h : Gro a b) (k : Gro b c) : Gro a c := by
  obtain ⟨q, os, rfl⟩ := h
  obtain ⟨q', os', rfl⟩ := k
  refine ⟨q + q', os ++ os', ?_⟩
  show Go.Sort.grow (Go.Sort.grow ((a.drewN q).drewN q') os) os' = _
  rw [Go.Sort.grow_grow, World.drewN_drewN]
theorem Gro.alloc (w : World) (o : Obj) : Gro w (w.alloc o) := ⟨0, #[o], by rw [Go.Sort.alloc_eq_grow]; rfl⟩
theorem Gro.drew (w : World) : Gro w w.drew := ⟨1, #[], by rw [Go.Sort.grow_empty]; rfl⟩
theorem Gro.ext {w w' : World} (h : Gro w w') : Ext w w' := by
  obtain ⟨q, os, rfl⟩ := h
  refine (Ext.drewN (Ext.refl w) q).trans ⟨rfl, rfl, rfl, by simp, fun k hk => ?_⟩
  show ((w.drewN q).heap ++ os)[k]? = _
  rw [Array.getElem?_append_left hk]
section
variable {P : Program} {n : Nat} {L : List Value} {ws : List (Nat × Value)} {w : World} {Q : Exit → Act → World → Prop}
theorem sn_newG {ev : Operand → Value} {oi : Oper} {N : Value → World → Prop} {us : Array Value} {t : TypeId} (h1 : (execOp ev oi).run P w = .ok (.value (.pointer (some ⟨w.heap.size, 0, none⟩))) (w.alloc (.cells us t)))
    (h : ∀ O X, w.heap.size = O → X.heap.size = O + 1 → Ext w X → (∀ i u, us[i]? = some u → BoxAt X O i u) → Gro w X → N (.pointer (some ⟨O, 0, none⟩)) X) : StepN P ev oi w N := by
  refine sn_eff h1 (h _ _ rfl (by simp) (Ext.alloc (Ext.refl _) _) (fun i u hu => ⟨?_, ?_⟩) (Gro.alloc _ _))
  · rw [cell_of_row _ _ i _ t (0, 0) (heap_alloc_new w _)]; exact hu
  · simp [go_sem]
end
end Go.Proofs.Ytnbjjddfcondlaa

/- The mathematics of stored images: the fill at a minute, the minutes at which it changes. -/
namespace Go.Proofs.Ytnbjjddfcondlaa
namespace Mem
/-- A stored image: its number, its units, its spell. -/
structure St where
  im : Int
  un : Int
  fr : Int
  to : Int
instance : Inhabited St := ⟨⟨0, 0, 0, 0⟩⟩
def live (t : Int) (x : St) : Bool := decide (x.fr ≤ t) && decide (t < x.to)
theorem live_iff {t : Int} {x : St} : live t x = true ↔ x.fr ≤ t ∧ t < x.to := by unfold live; simp
def part (t : Int) (x : St) : Int := if live t x then x.un else 0
def sumI (l : List Int) : Int := l.foldr (· + ·) 0
theorem sumI_nil : sumI [] = 0 := rfl
theorem sumI_cons (x : Int) (l : List Int) : sumI (x :: l) = x + sumI l := rfl
theorem sumI_app : ∀ (a b : List Int), sumI (a ++ b) = sumI a + sumI b
  | [], b => by rw [List.nil_append, sumI_nil]; omega
  | x :: a, b => by rw [List.cons_append, sumI_cons, sumI_cons, sumI_app a b]; omega
theorem sumI_perm {a b : List Int} (h : a.Perm b) : sumI a = sumI b := by
  induction h with
  | nil => rfl
  | cons x _ ih => rw [sumI_cons, sumI_cons, ih]
  | swap x y l => rw [sumI_cons, sumI_cons, sumI_cons, sumI_cons]; omega
  | trans _ _ h1 h2 => rw [h1, h2]
def fill (l : List St) (t : Int) : Int := sumI (l.map (part t))
theorem fill_cons (x : St) (l : List St) (t : Int) : fill (x :: l) t = part t x + fill l t := rfl
theorem fill_app (a b : List St) (t : Int) : fill (a ++ b) t = fill a t + fill b t := by unfold fill; rw [List.map_append, sumI_app]
/-- Proper: units and a spell that has minutes. -/
def okU (x : St) : Prop := 1 ≤ x.un ∧ x.fr < x.to
theorem part_nonneg {x : St} (h : okU x) (t : Int) : 0 ≤ part t x := by unfold part; split <;> (have := h.1; omega)
theorem fill_nonneg : ∀ {l : List St}, (∀ x ∈ l, okU x) → ∀ t, 0 ≤ fill l t
  | [], _, _ => Int.le_refl 0
  | x :: l, h, t => by
    have h1 := part_nonneg (h x (by simp)) t
    have h2 := fill_nonneg (l := l) (fun y hy => h y (List.mem_cons_of_mem _ hy)) t
    rw [fill_cons]; omega
theorem fill_zero {l : List St} {t : Int} (h : ∀ x ∈ l, live t x = false) : fill l t = 0 := by
  induction l with
  | nil => rfl
  | cons x l ih => rw [fill_cons, ih fun y hy => h y (by simp [hy])]; unfold part; rw [h x (by simp)]; rfl
theorem fill_congr {l : List St} {s t : Int} (h : ∀ x ∈ l, live s x = live t x) : fill l s = fill l t := by
  induction l with
  | nil => rfl
  | cons x l ih => rw [fill_cons, fill_cons, ih fun y hy => h y (by simp [hy])]; unfold part; rw [h x (by simp)]
theorem fill_mono {l : List St} {s t : Int} (hu : ∀ x ∈ l, okU x) (h : ∀ x ∈ l, live s x = true → live t x = true) : fill l s ≤ fill l t := by
  induction l with
  | nil => exact Int.le_refl 0
  | cons x l ih =>
    have h1 := ih (fun y hy => hu y (by simp [hy])) fun y hy => h y (by simp [hy])
    have h2 : part s x ≤ part t x := by
      unfold part
      cases q : live s x
      · have := part_nonneg (hu x (by simp)) t; unfold part at this; simpa using this
      · rw [h x (by simp) q]; exact Int.le_refl _
    rw [fill_cons, fill_cons]; omega
theorem fill_pos {l : List St} {t : Int} (hu : ∀ x ∈ l, okU x) {x : St} (hx : x ∈ l) (h : live t x = true) : 1 ≤ fill l t := by
  induction l with
  | nil => cases hx
  | cons y l ih =>
    have h2 := fill_nonneg (l := l) (fun y hy => hu y (List.mem_cons_of_mem _ hy)) t
    have h1 := part_nonneg (hu y (by simp)) t
    rw [fill_cons]
    rcases List.mem_cons.1 hx with rfl | hx
    · have : part t x = x.un := by unfold part; rw [h]; rfl
      have := (hu x (by simp)).1; omega
    · have := ih (fun y hy => hu y (by simp [hy])) hx; omega
/-! The minutes at which the fill changes. -/
abbrev Stp := Int × Int
def steps : List St → List Stp
  | [] => []
  | x :: l => (x.fr, x.un) :: (x.to, -x.un) :: steps l
theorem steps_len : ∀ l : List St, (steps l).length = 2 * l.length
  | [] => rfl
  | x :: l => by rw [steps, List.length_cons, List.length_cons, List.length_cons, steps_len l]; omega
theorem steps_snoc : ∀ (l : List St) (x : St), steps (l ++ [x]) = steps l ++ [(x.fr, x.un), (x.to, -x.un)]
  | [], x => rfl
  | y :: l, x => by rw [List.cons_append, steps, steps, steps_snoc l]; rfl
theorem mem_steps : ∀ {l : List St} {s : Stp}, s ∈ steps l ↔ ∃ x ∈ l, s = (x.fr, x.un) ∨ s = (x.to, -x.un)
  | [], s => by simp [steps]
  | x :: l, s => by
    rw [steps, List.mem_cons, List.mem_cons, mem_steps (l := l)]
    constructor
    · rintro (h | h | ⟨y, hy, h⟩)
      · exact ⟨x, by simp, .inl h⟩
      · exact ⟨x, by simp, .inr h⟩
      · exact ⟨y, by simp [hy], h⟩
    · rintro ⟨y, hy, h⟩
      rcases List.mem_cons.1 hy with rfl | hy
      · rcases h with h | h
        · exact .inl h
        · exact .inr (.inl h)
      · exact .inr (.inr ⟨y, hy, h⟩)
def upto (s : List Stp) (t : Int) : Int := sumI (s.map fun p => if p.1 ≤ t then p.2 else 0)
theorem upto_perm {a b : List Stp} (h : a.Perm b) (t : Int) : upto a t = upto b t := sumI_perm (h.map _)
theorem upto_cons (p : Stp) (s : List Stp) (t : Int) : upto (p :: s) t = (if p.1 ≤ t then p.2 else 0) + upto s t := rfl
theorem upto_steps : ∀ {l : List St}, (∀ x ∈ l, okU x) → ∀ t, upto (steps l) t = fill l t
  | [], _, _ => rfl
  | x :: l, h, t => by
    have hx := h x (by simp)
    rw [steps, upto_cons, upto_cons, upto_steps (fun y hy => h y (by simp [hy])) t, fill_cons]
    unfold part
    by_cases h1 : x.fr ≤ t
    · by_cases h2 : x.to ≤ t
      · have : live t x = false := by unfold live; simp; omega
        rw [this]; simp [h1, h2]; omega
      · have : live t x = true := live_iff.2 ⟨h1, by omega⟩
        rw [this]; simp [h1, h2]
    · have h2 : ¬ x.to ≤ t := by have := hx.2; omega
      have : live t x = false := by unfold live; simp [h1]
      rw [this]; simp [h1, h2]
theorem upto_none {s : List Stp} {t : Int} (h : ∀ p ∈ s, t < p.1) : upto s t = 0 := by
  induction s with
  | nil => rfl
  | cons p s ih => rw [upto_cons, ih fun q hq => h q (by simp [hq]), if_neg (by have := h p (by simp); omega)]; rfl
/-- What is yielded, of steps in order: the fill before, then the steps. -/
def emit : Int → List Stp → List Stp
  | _, [] => []
  | f, [a] => [(a.1, f + a.2)]
  | f, a :: b :: s => if b.1 = a.1 then emit (f + a.2) (b :: s) else (a.1, f + a.2) :: emit (f + a.2) (b :: s)
def Srt (s : List Stp) : Prop := s.Pairwise fun a b => a.1 ≤ b.1
theorem emit_ge : ∀ {s : List Stp} {f : Int} {p q : Stp}, Srt (p :: s) → q ∈ emit f (p :: s) → p.1 ≤ q.1
  | [], f, p, q, _, hq => by rw [emit, List.mem_singleton] at hq; rw [hq]; exact Int.le_refl _
  | b :: s, f, p, q, h, hq => by
    obtain ⟨h1, h2⟩ := List.pairwise_cons.1 h
    have hb := h1 b (by simp)
    rw [emit] at hq
    split at hq
    · exact Int.le_trans hb (emit_ge h2 hq)
    · rcases List.mem_cons.1 hq with rfl | hq
      · exact Int.le_refl _
      · exact Int.le_trans hb (emit_ge h2 hq)
theorem emit_asc : ∀ {s : List Stp} {f : Int}, Srt s → (emit f s).Pairwise fun a b => a.1 < b.1
  | [], _, _ => List.Pairwise.nil
  | [a], _, _ => List.pairwise_singleton _ _
  | a :: b :: s, f, h => by
    obtain ⟨h1, h2⟩ := List.pairwise_cons.1 h
    rw [emit]
    split
    · exact emit_asc h2
    · rename_i hne
      refine List.pairwise_cons.2 ⟨fun q hq => ?_, emit_asc h2⟩
      have h3 := emit_ge h2 hq
      have h4 := h1 b (by simp)
      show a.1 < q.1
      omega
theorem emit_mem : ∀ {s : List Stp} {f : Int} {p : Stp}, p ∈ s → ∃ q ∈ emit f s, q.1 = p.1
  | [a], f, p, h => by rw [List.mem_singleton.1 h]; exact ⟨(a.1, f + a.2), by rw [emit]; simp, rfl⟩
  | a :: b :: s, f, p, h => by
    rw [emit]
    split
    · rename_i he
      rcases List.mem_cons.1 h with rfl | h
      · obtain ⟨q, hq, e⟩ := emit_mem (f := f + p.2) (show b ∈ b :: s by simp)
        exact ⟨q, hq, e.trans he⟩
      · exact emit_mem h
    · rcases List.mem_cons.1 h with rfl | h
      · exact ⟨(p.1, f + p.2), by simp, rfl⟩
      · obtain ⟨q, hq, e⟩ := emit_mem (f := f + a.2) h
        exact ⟨q, by simp [hq], e⟩
theorem emit_of : ∀ {s : List Stp} {f : Int} {q : Stp}, Srt s → q ∈ emit f s → (∃ p ∈ s, p.1 = q.1) ∧ q.2 = f + upto s q.1
  | [a], f, q, _, h => by
    rw [emit, List.mem_singleton] at h
    subst h
    exact ⟨⟨a, by simp, rfl⟩, by rw [upto_cons, if_pos (Int.le_refl _)]; show f + a.2 = f + (a.2 + 0); omega⟩
  | a :: b :: s, f, q, hs, h => by
    obtain ⟨h1, h2⟩ := List.pairwise_cons.1 hs
    rw [emit] at h
    split at h
    · rename_i he
      obtain ⟨⟨p, hp, e⟩, e2⟩ := emit_of h2 h
      refine ⟨⟨p, by simp [hp], e⟩, ?_⟩
      have hg := emit_ge h2 h
      rw [e2, upto_cons a, if_pos (by omega)]; omega
    · rename_i hne
      rcases List.mem_cons.1 h with rfl | h
      · refine ⟨⟨a, by simp, rfl⟩, ?_⟩
        have hz : upto (b :: s) a.1 = 0 := upto_none fun p hp => by
          rcases List.mem_cons.1 hp with rfl | hp
          · have := h1 p (by simp); omega
          · have h3 := (List.pairwise_cons.1 h2).1 p hp
            have h4 := h1 b (by simp); omega
        show f + a.2 = f + upto (a :: b :: s) a.1
        rw [upto_cons, hz, if_pos (Int.le_refl _)]; omega
      · obtain ⟨⟨p, hp, e⟩, e2⟩ := emit_of h2 h
        refine ⟨⟨p, by simp [hp], e⟩, ?_⟩
        have hg := emit_ge h2 h
        have h4 := h1 b (by simp)
        rw [e2, upto_cons a, if_pos (by omega)]; omega
/-- What the fills of stored images are: ascending minutes at which one begins or ends, each with the fill there. -/
structure Fills (l : List St) (E : List Stp) : Prop where
  asc : E.Pairwise fun a b => a.1 < b.1
  val : ∀ q ∈ E, q.2 = fill l q.1
  at_ : ∀ q ∈ E, ∃ x ∈ l, q.1 = x.fr ∨ q.1 = x.to
  fr : ∀ x ∈ l, ∃ q ∈ E, q.1 = x.fr
  to : ∀ x ∈ l, ∃ q ∈ E, q.1 = x.to
theorem fills_of {l : List St} {s : List Stp} (hu : ∀ x ∈ l, okU x) (hp : s.Perm (steps l)) (hs : Srt s) : Fills l (emit 0 s) where
  asc := emit_asc hs
  val q hq := by rw [(emit_of hs hq).2, upto_perm hp, upto_steps hu]; omega
  at_ q hq := by
    obtain ⟨⟨p, hp', e⟩, _⟩ := emit_of hs hq
    obtain ⟨x, hx, h⟩ := mem_steps.1 (hp.mem_iff.1 hp')
    refine ⟨x, hx, ?_⟩
    rcases h with rfl | rfl
    · exact .inl e.symm
    · exact .inr e.symm
  fr x hx := emit_mem (hp.mem_iff.2 (mem_steps.2 ⟨x, hx, .inl rfl⟩))
  to x hx := emit_mem (p := (x.to, -x.un)) (hp.mem_iff.2 (mem_steps.2 ⟨x, hx, .inr rfl⟩))
/-- Between two changes nothing changes. -/
theorem fill_const {l : List St} {E : List Stp} (h : Fills l E) {s t : Int} (hst : s ≤ t) (hn : ∀ q ∈ E, ¬ (s < q.1 ∧ q.1 ≤ t)) : fill l s = fill l t := fill_congr fun x hx => by
  obtain ⟨p, hp, e1⟩ := h.fr x hx
  obtain ⟨q, hq, e2⟩ := h.to x hx
  have h1 := hn p hp
  have h2 := hn q hq
  rw [e1] at h1; rw [e2] at h2
  rw [Bool.eq_iff_iff, live_iff, live_iff]
  omega
theorem fill_before {l : List St} {E : List Stp} (h : Fills l E) {t : Int} (hn : ∀ q ∈ E, t < q.1) : fill l t = 0 := fill_zero fun x hx => by
  obtain ⟨p, hp, e1⟩ := h.fr x hx
  have := hn p hp
  cases q : live t x
  · rfl
  · have := (live_iff.1 q).1; omega
/-! The last one that is not later. -/
def lastV (E : List Stp) : Int := match E.getLast? with | some q => q.2 | none => 0
theorem lastV_nil : lastV [] = 0 := rfl
theorem lastV_snoc (E : List Stp) (q : Stp) : lastV (E ++ [q]) = q.2 := by unfold lastV; rw [List.getLast?_concat]
theorem fill_at {l : List St} {E : List Stp} (h : Fills l E) {k : Nat} {t : Int} (h1 : ∀ j q, j < k → E[j]? = some q → q.1 ≤ t) (h2 : ∀ q, E[k]? = some q → t < q.1) (hk : k ≤ E.length) : lastV (E.take k) = fill l t := by
  have hlater : ∀ j q, k ≤ j → E[j]? = some q → t < q.1 := fun j q hj hq => by
    rcases Nat.eq_or_lt_of_le hj with rfl | hj
    · exact h2 q hq
    · obtain ⟨hjl, rfl⟩ := List.getElem?_eq_some_iff.1 hq
      have hkl : k < E.length := by omega
      have := List.pairwise_iff_getElem.1 h.asc k j hkl hjl hj
      have := h2 _ (List.getElem?_eq_getElem hkl)
      omega
  rcases Nat.eq_zero_or_pos k with h0 | h0
  · subst h0
    rw [List.take_zero, lastV_nil]
    exact (fill_before h fun q hq => by obtain ⟨j, hj⟩ := List.getElem?_of_mem hq; exact hlater j q (Nat.zero_le _) hj).symm
  · obtain ⟨m, rfl⟩ : ∃ m, k = m + 1 := ⟨k - 1, by omega⟩
    have hm := List.getElem?_eq_getElem (l := E) (i := m) (by omega)
    rw [List.take_add_one, hm]
    show lastV (E.take m ++ [E[m]]) = _
    rw [lastV_snoc, h.val _ (List.getElem_mem _)]
    refine fill_const h (h1 m _ (by omega) hm) fun q hq hb => ?_
    obtain ⟨j, hj⟩ := List.getElem?_of_mem hq
    rcases Nat.lt_or_ge j (m + 1) with hjm | hjm
    · rcases Nat.eq_or_lt_of_le (show j ≤ m by omega) with rfl | hjm
      · rw [hm] at hj; cases hj; omega
      · obtain ⟨hjl, rfl⟩ := List.getElem?_eq_some_iff.1 hj
        have := List.pairwise_iff_getElem.1 h.asc j m hjl (by omega) hjm
        omega
    · have := hlater j q hjm hj; omega
/-! The greatest fill, and when it is first reached. -/
def IsMost (l : List St) (b w : Int) : Prop := (l = [] ∧ b = 0 ∧ w = -1) ∨ (l ≠ [] ∧ fill l w = b ∧ (∃ x ∈ l, x.fr = w) ∧ (∀ t, fill l t ≤ b) ∧ ∀ t, t < w → fill l t < b)
theorem IsMost.uniq {l : List St} {b w b' w' : Int} (h : IsMost l b w) (h' : IsMost l b' w') : b = b' ∧ w = w' := by
  rcases h with ⟨e, rfl, rfl⟩ | ⟨e, h1, _, h3, h4⟩
  · rcases h' with ⟨_, rfl, rfl⟩ | ⟨e', _⟩
    · exact ⟨rfl, rfl⟩
    · exact absurd e e'
  · rcases h' with ⟨e', _⟩ | ⟨_, k1, _, k3, k4⟩
    · exact absurd e' e
    · have hb : b = b' := by have := h3 w'; have := k3 w; omega
      subst hb
      refine ⟨rfl, ?_⟩
      rcases Int.lt_trichotomy w w' with q | q | q
      · have := k4 w q; omega
      · exact q
      · have := h4 w' q; omega
def mostGo : Int × Int → List Stp → Int × Int
  | bw, [] => bw
  | bw, q :: E => mostGo (if bw.1 < q.2 then (q.2, q.1) else bw) E
theorem mostGo_app : ∀ (a : List Stp) (bw : Int × Int) (b : List Stp), mostGo bw (a ++ b) = mostGo (mostGo bw a) b
  | [], _, _ => rfl
  | q :: a, bw, b => by rw [List.cons_append, mostGo, mostGo, mostGo_app a]
theorem mostGo_spec : ∀ {E : List Stp} {bw : Int × Int}, (bw.1 ≤ (mostGo bw E).1) ∧ (∀ q ∈ E, q.2 ≤ (mostGo bw E).1) ∧ (mostGo bw E = bw ∨ ((mostGo bw E).2, (mostGo bw E).1) ∈ E)
  | [], bw => ⟨Int.le_refl _, (fun q hq => by cases hq), .inl rfl⟩
  | p :: E, bw => by
    rw [mostGo]
    obtain ⟨h1, h2, h3⟩ := mostGo_spec (E := E) (bw := if bw.1 < p.2 then (p.2, p.1) else bw)
    by_cases hlt : bw.1 < p.2
    · rw [if_pos hlt] at h1 h2 h3 ⊢
      refine ⟨by simp at h1; omega, fun q hq => ?_, .inr ?_⟩
      · rcases List.mem_cons.1 hq with rfl | hq
        · exact h1
        · exact h2 q hq
      · rcases h3 with h3 | h3
        · rw [h3]; simp
        · exact List.mem_cons_of_mem _ h3
    · rw [if_neg hlt] at h1 h2 h3 ⊢
      refine ⟨h1, fun q hq => ?_, ?_⟩
      · rcases List.mem_cons.1 hq with rfl | hq
        · omega
        · exact h2 q hq
      · exact h3.imp id (List.mem_cons_of_mem _)
/-- The first one that is the greatest: those ahead are less. -/
theorem mostGo_first : ∀ {E : List Stp} {bw : Int × Int}, E.Pairwise (fun a b => a.1 < b.1) → mostGo bw E ≠ bw → (∀ q ∈ E, q.1 < (mostGo bw E).2 → q.2 < (mostGo bw E).1) ∧ bw.1 < (mostGo bw E).1
  | [], _, _, h => absurd rfl h
  | p :: E, bw, ha, h => by
    obtain ⟨a1, a2⟩ := List.pairwise_cons.1 ha
    rw [mostGo] at h ⊢
    by_cases hlt : bw.1 < p.2
    · rw [if_pos hlt] at h ⊢
      by_cases he : mostGo (p.2, p.1) E = (p.2, p.1)
      · rw [he]
        refine ⟨fun q hq hl => ?_, hlt⟩
        rcases List.mem_cons.1 hq with rfl | hq
        · simp at hl
        · have := a1 q hq; simp at hl; omega
      · obtain ⟨k1, k2⟩ := mostGo_first a2 he
        refine ⟨fun q hq hl => ?_, by simp at k2; omega⟩
        rcases List.mem_cons.1 hq with rfl | hq
        · exact k2
        · exact k1 q hq hl
    · rw [if_neg hlt] at h ⊢
      obtain ⟨k1, k2⟩ := mostGo_first a2 h
      refine ⟨fun q hq hl => ?_, k2⟩
      rcases List.mem_cons.1 hq with rfl | hq
      · omega
      · exact k1 q hq hl
/-- Each fill is one of those that are yielded, not later; or nothing. -/
theorem fill_some {l : List St} {E : List Stp} (h : Fills l E) (t : Int) : (fill l t = 0 ∧ ∀ q ∈ E, t < q.1) ∨ ∃ q ∈ E, q.1 ≤ t ∧ fill l t = q.2 := by
  by_cases hn : ∀ q ∈ E, t < q.1
  · exact .inl ⟨fill_before h hn, hn⟩
  · right
    have hne : ∃ q ∈ E, q.1 ≤ t := Classical.byContradiction fun hc => hn fun q hq => Classical.byContradiction fun h9 => hc ⟨q, hq, by omega⟩
    clear hn
    -- the last one of them
    obtain ⟨q, hq, h1, h2⟩ : ∃ q ∈ E, q.1 ≤ t ∧ ∀ p ∈ E, p.1 ≤ t → p.1 ≤ q.1 := by
      have key : ∀ (F : List Stp), (∃ q ∈ F, q.1 ≤ t) → ∃ q ∈ F, q.1 ≤ t ∧ ∀ p ∈ F, p.1 ≤ t → p.1 ≤ q.1 := by
        intro F
        induction F with
        | nil => rintro ⟨q, hq, _⟩; cases hq
        | cons a F ih =>
          rintro ⟨q, hq, hqt⟩
          by_cases hF : ∃ q ∈ F, q.1 ≤ t
          · obtain ⟨r, hr, r1, r2⟩ := ih hF
            by_cases ha : a.1 ≤ t ∧ r.1 < a.1
            · refine ⟨a, by simp, ha.1, fun p hp hpt => ?_⟩
              rcases List.mem_cons.1 hp with rfl | hp
              · exact Int.le_refl _
              · have := r2 p hp hpt; omega
            · refine ⟨r, by simp [hr], r1, fun p hp hpt => ?_⟩
              rcases List.mem_cons.1 hp with rfl | hp
              · omega
              · exact r2 p hp hpt
          · rcases List.mem_cons.1 hq with rfl | hq
            · refine ⟨q, by simp, hqt, fun p hp hpt => ?_⟩
              rcases List.mem_cons.1 hp with rfl | hp
              · exact Int.le_refl _
              · exact absurd ⟨p, hp, hpt⟩ hF
            · exact absurd ⟨q, hq, hqt⟩ hF
      exact key E hne
    refine ⟨q, hq, h1, ?_⟩
    rw [h.val q hq]
    exact (fill_const h h1 fun p hp hb => by have := h2 p hp hb.2; omega).symm
theorem most_is {l : List St} {E : List Stp} (hu : ∀ x ∈ l, okU x) (h : Fills l E) : IsMost l (mostGo (0, -1) E).1 (mostGo (0, -1) E).2 := by
  by_cases hl : l = []
  · subst hl
    have hE : E = [] := by
      cases E with
      | nil => rfl
      | cons q E => obtain ⟨x, hx, _⟩ := h.at_ q (by simp); cases hx
    subst hE
    exact .inl ⟨rfl, rfl, rfl⟩
  · right
    obtain ⟨s1, s2, s3⟩ := mostGo_spec (E := E) (bw := (0, -1))
    obtain ⟨x, hx⟩ := List.exists_mem_of_ne_nil l hl
    obtain ⟨p, hp, e⟩ := h.fr x hx
    have hpos : 1 ≤ p.2 := by
      rw [h.val p hp, e]
      exact fill_pos hu hx (live_iff.2 ⟨Int.le_refl _, (hu x hx).2⟩)
    have hne : mostGo (0, -1) E ≠ (0, -1) := fun e9 => by have := s2 p hp; rw [e9] at this; simp at this; omega
    have hm := s3.resolve_left hne
    obtain ⟨f1, f2⟩ := mostGo_first (bw := (0, -1)) h.asc hne
    have hall : ∀ t, fill l t ≤ (mostGo (0, -1) E).1 := fun t => by
      rcases fill_some h t with ⟨e0, _⟩ | ⟨q, hq, _, e0⟩
      · rw [e0]; exact s1
      · rw [e0]; exact s2 q hq
    have hless : ∀ t, t < (mostGo (0, -1) E).2 → fill l t < (mostGo (0, -1) E).1 := fun t ht => by
      rcases fill_some h t with ⟨e0, _⟩ | ⟨q, hq, hqt, e0⟩
      · rw [e0]; exact f2
      · rw [e0]; exact f1 q hq (by omega)
    refine ⟨hl, (h.val _ hm).symm, ?_, hall, hless⟩
    apply Classical.byContradiction
    intro hc
    have h1 := fill_mono (s := (mostGo (0, -1) E).2) (t := (mostGo (0, -1) E).2 - 1) hu fun y hy hl' => by
      have := live_iff.1 hl'
      have hy2 : y.fr ≠ (mostGo (0, -1) E).2 := fun e9 => hc ⟨y, hy, e9⟩
      exact live_iff.2 ⟨by omega, by omega⟩
    have h2 := hless ((mostGo (0, -1) E).2 - 1) (by omega)
    have h3 := h.val _ hm
    simp only at h3
    omega
/-! The first minute at which a limit is not kept. -/
def IsOver (l : List St) (lim t : Int) : Prop := (t = -1 ∧ ∀ s, fill l s ≤ lim) ∨ ((∃ x ∈ l, x.fr = t) ∧ lim < fill l t ∧ ∀ s, s < t → fill l s ≤ lim)
theorem over_found {l : List St} {E : List Stp} {lim : Int} (hu : ∀ x ∈ l, okU x) (h : Fills l E) (h0 : 0 ≤ lim) {k : Nat} {q : Stp} (hq : E[k]? = some q) (hlt : lim < q.2) (hn : ∀ j p, j < k → E[j]? = some p → p.2 ≤ lim) : IsOver l lim q.1 := by
  have hqm := List.mem_of_getElem? hq
  have hbef : ∀ s, s < q.1 → fill l s ≤ lim := fun s hs => by
    rcases fill_some h s with ⟨e0, _⟩ | ⟨p, hp, hps, e0⟩
    · omega
    · rw [e0]
      obtain ⟨j, hj⟩ := List.getElem?_of_mem hp
      refine hn j p ?_ hj
      apply Classical.byContradiction
      intro hc
      obtain ⟨hjl, rfl⟩ := List.getElem?_eq_some_iff.1 hj
      obtain ⟨hkl, rfl⟩ := List.getElem?_eq_some_iff.1 hq
      rcases Nat.eq_or_lt_of_le (show k ≤ j by omega) with rfl | hkj
      · omega
      · have := List.pairwise_iff_getElem.1 h.asc k j hkl hjl hkj; omega
  have hv := h.val q hqm
  refine .inr ⟨?_, by omega, hbef⟩
  apply Classical.byContradiction
  intro hc
  have h1 := fill_mono (s := q.1) (t := q.1 - 1) hu fun y hy hl' => by
    have := live_iff.1 hl'
    have hy2 : y.fr ≠ q.1 := fun e9 => hc ⟨y, hy, e9⟩
    exact live_iff.2 ⟨by omega, by omega⟩
  have h2 := hbef (q.1 - 1) (by omega)
  omega
theorem over_none {l : List St} {E : List Stp} {lim : Int} (h : Fills l E) (h0 : 0 ≤ lim) (hn : ∀ p ∈ E, p.2 ≤ lim) : IsOver l lim (-1) := .inl ⟨rfl, fun s => by
  rcases fill_some h s with ⟨e0, _⟩ | ⟨p, hp, _, e0⟩
  · omega
  · rw [e0]; exact hn p hp⟩
theorem IsOver.uniq {l : List St} {lim t t' : Int} (h : IsOver l lim t) (h' : IsOver l lim t') : t = t' := by
  rcases h with ⟨rfl, h1⟩ | ⟨⟨x, hx, e⟩, h1, h2⟩
  · rcases h' with ⟨rfl, _⟩ | ⟨_, k1, _⟩
    · rfl
    · have := h1 t'; omega
  · rcases h' with ⟨rfl, k1⟩ | ⟨⟨y, hy, e'⟩, k1, k2⟩
    · have := k1 t; omega
    · rcases Int.lt_trichotomy t t' with q | q | q
      · have := k2 t q; omega
      · exact q
      · have := h2 t' q; omega
end Mem
end Go.Proofs.Ytnbjjddfcondlaa

/- Loads, stores, indices and slices at the types of this seat. -/
namespace Go.Proofs.Ytnbjjddfcondlaa
open Go.RowKit

theorem ix22 {w : World} {b o n c k : Nat} (hk : k < n) : (Instr.indexAt 22 (.slice (some ⟨b, o, none⟩) n c) (.int .i64 (k : Int))).run Try.prog w = .ok (.pointer (some ⟨b, o + k * 3, none⟩)) w := by
  have : (0 : Int) ≤ (k : Int) := by omega
  have : (k : Int) < (n : Int) := by omega
  go_simp
theorem ix27 {w : World} {b o n c k : Nat} (hk : k < n) : (Instr.indexAt 27 (.slice (some ⟨b, o, none⟩) n c) (.int .i64 (k : Int))).run Try.prog w = .ok (.pointer (some ⟨b, o + k * 4, none⟩)) w := by
  have : (0 : Int) ≤ (k : Int) := by omega
  have : (k : Int) < (n : Int) := by omega
  go_simp
theorem ix27z {w : World} {b n c k : Nat} (hk : k < n) : (Instr.indexAt 27 (.slice (some ⟨b, 0, none⟩) n c) (.int .i64 (k : Int))).run Try.prog w = .ok (.pointer (some ⟨b, k * 4, none⟩)) w := by
  have h := ix27 (w := w) (b := b) (o := 0) (c := c) hk
  rwa [Nat.zero_add] at h
theorem ix29 {w : World} {b o n c k : Nat} (hk : k < n) : (Instr.indexAt 29 (.slice (some ⟨b, o, none⟩) n c) (.int .i64 (k : Int))).run Try.prog w = .ok (.pointer (some ⟨b, o + k * 3, none⟩)) w := by
  have : (0 : Int) ≤ (k : Int) := by omega
  have : (k : Int) < (n : Int) := by omega
  go_simp
theorem ix35 {w : World} {b o n c k : Nat} (hk : k < n) : (Instr.indexAt 35 (.slice (some ⟨b, o, none⟩) n c) (.int .i64 (k : Int))).run Try.prog w = .ok (.pointer (some ⟨b, o + k, none⟩)) w := by
  have : (0 : Int) ≤ (k : Int) := by omega
  have : (k : Int) < (n : Int) := by omega
  go_simp
theorem ix35z {w : World} {b n c k : Nat} (hk : k < n) : (Instr.indexAt 35 (.slice (some ⟨b, 0, none⟩) n c) (.int .i64 (k : Int))).run Try.prog w = .ok (.pointer (some ⟨b, k, none⟩)) w := by
  have h := ix35 (w := w) (b := b) (o := 0) (c := c) hk
  rwa [Nat.zero_add] at h
theorem ix39 {w : World} {b o n c k : Nat} (hk : k < n) : (Instr.indexAt 39 (.slice (some ⟨b, o, none⟩) n c) (.int .i64 (k : Int))).run Try.prog w = .ok (.pointer (some ⟨b, o + k, none⟩)) w := by
  have : (0 : Int) ≤ (k : Int) := by omega
  have : (k : Int) < (n : Int) := by omega
  go_simp
theorem ix39z {w : World} {b n c k : Nat} (hk : k < n) : (Instr.indexAt 39 (.slice (some ⟨b, 0, none⟩) n c) (.int .i64 (k : Int))).run Try.prog w = .ok (.pointer (some ⟨b, k, none⟩)) w := by
  have h := ix39 (w := w) (b := b) (o := 0) (c := c) hk
  rwa [Nat.zero_add] at h
theorem ix45 {w : World} {b o n c k : Nat} (hk : k < n) : (Instr.indexAt 45 (.slice (some ⟨b, o, none⟩) n c) (.int .i64 (k : Int))).run Try.prog w = .ok (.pointer (some ⟨b, o + k * 2, none⟩)) w := by
  have : (0 : Int) ≤ (k : Int) := by omega
  have : (k : Int) < (n : Int) := by omega
  go_simp
theorem ix45z {w : World} {b n c k : Nat} (hk : k < n) : (Instr.indexAt 45 (.slice (some ⟨b, 0, none⟩) n c) (.int .i64 (k : Int))).run Try.prog w = .ok (.pointer (some ⟨b, k * 2, none⟩)) w := by
  have h := ix45 (w := w) (b := b) (o := 0) (c := c) hk
  rwa [Nat.zero_add] at h
theorem ix48 {w : World} {b o n c k : Nat} (hk : k < n) : (Instr.indexAt 48 (.slice (some ⟨b, o, none⟩) n c) (.int .i64 (k : Int))).run Try.prog w = .ok (.pointer (some ⟨b, o + k * 2, none⟩)) w := by
  have : (0 : Int) ≤ (k : Int) := by omega
  have : (k : Int) < (n : Int) := by omega
  go_simp
theorem ix48z {w : World} {b n c k : Nat} (hk : k < n) : (Instr.indexAt 48 (.slice (some ⟨b, 0, none⟩) n c) (.int .i64 (k : Int))).run Try.prog w = .ok (.pointer (some ⟨b, k * 2, none⟩)) w := by
  have h := ix48 (w := w) (b := b) (o := 0) (c := c) hk
  rwa [Nat.zero_add] at h
theorem ix50 {w : World} {b o n c k : Nat} (hk : k < n) : (Instr.indexAt 50 (.slice (some ⟨b, o, none⟩) n c) (.int .i64 (k : Int))).run Try.prog w = .ok (.pointer (some ⟨b, o + k * 9, none⟩)) w := by
  have : (0 : Int) ≤ (k : Int) := by omega
  have : (k : Int) < (n : Int) := by omega
  go_simp
theorem ix50z {w : World} {b n c k : Nat} (hk : k < n) : (Instr.indexAt 50 (.slice (some ⟨b, 0, none⟩) n c) (.int .i64 (k : Int))).run Try.prog w = .ok (.pointer (some ⟨b, k * 9, none⟩)) w := by
  have h := ix50 (w := w) (b := b) (o := 0) (c := c) hk
  rwa [Nat.zero_add] at h
theorem ix52 {w : World} {b o n c k : Nat} (hk : k < n) : (Instr.indexAt 52 (.slice (some ⟨b, o, none⟩) n c) (.int .i64 (k : Int))).run Try.prog w = .ok (.pointer (some ⟨b, o + k * 6, none⟩)) w := by
  have : (0 : Int) ≤ (k : Int) := by omega
  have : (k : Int) < (n : Int) := by omega
  go_simp
theorem ix56 {w : World} {b o n c k : Nat} (hk : k < n) : (Instr.indexAt 56 (.slice (some ⟨b, o, none⟩) n c) (.int .i64 (k : Int))).run Try.prog w = .ok (.pointer (some ⟨b, o + k, none⟩)) w := by
  have : (0 : Int) ≤ (k : Int) := by omega
  have : (k : Int) < (n : Int) := by omega
  go_simp
theorem ix56z {w : World} {b n c k : Nat} (hk : k < n) : (Instr.indexAt 56 (.slice (some ⟨b, 0, none⟩) n c) (.int .i64 (k : Int))).run Try.prog w = .ok (.pointer (some ⟨b, k, none⟩)) w := by
  have h := ix56 (w := w) (b := b) (o := 0) (c := c) hk
  rwa [Nat.zero_add] at h
theorem ix84 {w : World} {b o n c k : Nat} (hk : k < n) : (Instr.indexAt 84 (.slice (some ⟨b, o, none⟩) n c) (.int .i64 (k : Int))).run Try.prog w = .ok (.pointer (some ⟨b, o + k * 2, none⟩)) w := by
  have : (0 : Int) ≤ (k : Int) := by omega
  have : (k : Int) < (n : Int) := by omega
  go_simp
theorem ix84z {w : World} {b n c k : Nat} (hk : k < n) : (Instr.indexAt 84 (.slice (some ⟨b, 0, none⟩) n c) (.int .i64 (k : Int))).run Try.prog w = .ok (.pointer (some ⟨b, k * 2, none⟩)) w := by
  have h := ix84 (w := w) (b := b) (o := 0) (c := c) hk
  rwa [Nat.zero_add] at h
theorem ld24 {w : World} {b o : Nat} {x0 x1 : Value} (h0 : w.cell? ⟨b, o, none⟩ = some x0) (h1 : w.cell? ⟨b, o + 1, none⟩ = some x1) : (Instr.loadAt 24 (.pointer (some ⟨b, o, none⟩))).run Try.prog w = .ok (.agg #[x0, x1]) w := by go_simp
theorem ld26 {w : World} {b o : Nat} {x0 x1 x2 x3 : Value} (h0 : w.cell? ⟨b, o, none⟩ = some x0) (h1 : w.cell? ⟨b, o + 1, none⟩ = some x1) (h2 : w.cell? ⟨b, o + 2, none⟩ = some x2) (h3 : w.cell? ⟨b, o + 3, none⟩ = some x3) : (Instr.loadAt 26 (.pointer (some ⟨b, o, none⟩))).run Try.prog w = .ok (.agg #[x0, x1, x2, x3]) w := by go_simp
theorem ld27 {w : World} {b o : Nat} {x0 : Value} (h0 : w.cell? ⟨b, o, none⟩ = some x0) : (Instr.loadAt 27 (.pointer (some ⟨b, o, none⟩))).run Try.prog w = .ok (x0) w := by go_simp
theorem ld28 {w : World} {b o : Nat} {x0 x1 x2 x3 x4 x5 : Value} (h0 : w.cell? ⟨b, o, none⟩ = some x0) (h1 : w.cell? ⟨b, o + 1, none⟩ = some x1) (h2 : w.cell? ⟨b, o + 2, none⟩ = some x2) (h3 : w.cell? ⟨b, o + 3, none⟩ = some x3) (h4 : w.cell? ⟨b, o + 4, none⟩ = some x4) (h5 : w.cell? ⟨b, o + 5, none⟩ = some x5) : (Instr.loadAt 28 (.pointer (some ⟨b, o, none⟩))).run Try.prog w = .ok (.agg #[x0, x1, x2, x3, x4, x5]) w := by go_simp
theorem ld29 {w : World} {b o : Nat} {x0 : Value} (h0 : w.cell? ⟨b, o, none⟩ = some x0) : (Instr.loadAt 29 (.pointer (some ⟨b, o, none⟩))).run Try.prog w = .ok (x0) w := by go_simp
theorem ld3 {w : World} {b o : Nat} {x0 : Value} (h0 : w.cell? ⟨b, o, none⟩ = some x0) : (Instr.loadAt 3 (.pointer (some ⟨b, o, none⟩))).run Try.prog w = .ok (x0) w := by go_simp
theorem ld31 {w : World} {b o : Nat} {x0 x1 x2 x3 x4 x5 x6 x7 x8 : Value} (h0 : w.cell? ⟨b, o, none⟩ = some x0) (h1 : w.cell? ⟨b, o + 1, none⟩ = some x1) (h2 : w.cell? ⟨b, o + 2, none⟩ = some x2) (h3 : w.cell? ⟨b, o + 3, none⟩ = some x3) (h4 : w.cell? ⟨b, o + 4, none⟩ = some x4) (h5 : w.cell? ⟨b, o + 5, none⟩ = some x5) (h6 : w.cell? ⟨b, o + 6, none⟩ = some x6) (h7 : w.cell? ⟨b, o + 7, none⟩ = some x7) (h8 : w.cell? ⟨b, o + 8, none⟩ = some x8) : (Instr.loadAt 31 (.pointer (some ⟨b, o, none⟩))).run Try.prog w = .ok (.agg #[x0, x1, x2, x3, x4, x5, x6, x7, x8]) w := by go_simp
theorem ld36 {w : World} {b o : Nat} {x0 : Value} (h0 : w.cell? ⟨b, o, none⟩ = some x0) : (Instr.loadAt 36 (.pointer (some ⟨b, o, none⟩))).run Try.prog w = .ok (x0) w := by go_simp
theorem ld39 {w : World} {b o : Nat} {x0 : Value} (h0 : w.cell? ⟨b, o, none⟩ = some x0) : (Instr.loadAt 39 (.pointer (some ⟨b, o, none⟩))).run Try.prog w = .ok (x0) w := by go_simp
theorem ld4 {w : World} {b o : Nat} {x0 : Value} (h0 : w.cell? ⟨b, o, none⟩ = some x0) : (Instr.loadAt 4 (.pointer (some ⟨b, o, none⟩))).run Try.prog w = .ok (x0) w := by go_simp
theorem ld44 {w : World} {b o : Nat} {x0 x1 : Value} (h0 : w.cell? ⟨b, o, none⟩ = some x0) (h1 : w.cell? ⟨b, o + 1, none⟩ = some x1) : (Instr.loadAt 44 (.pointer (some ⟨b, o, none⟩))).run Try.prog w = .ok (.agg #[x0, x1]) w := by go_simp
theorem ld56 {w : World} {b o : Nat} {x0 : Value} (h0 : w.cell? ⟨b, o, none⟩ = some x0) : (Instr.loadAt 56 (.pointer (some ⟨b, o, none⟩))).run Try.prog w = .ok (x0) w := by go_simp
theorem ld61 {w : World} {b o : Nat} {x0 x1 x2 : Value} (h0 : w.cell? ⟨b, o, none⟩ = some x0) (h1 : w.cell? ⟨b, o + 1, none⟩ = some x1) (h2 : w.cell? ⟨b, o + 2, none⟩ = some x2) : (Instr.loadAt 61 (.pointer (some ⟨b, o, none⟩))).run Try.prog w = .ok (.agg #[x0, x1, x2]) w := by go_simp
theorem ld86 {w : World} {b o : Nat} {x0 x1 : Value} (h0 : w.cell? ⟨b, o, none⟩ = some x0) (h1 : w.cell? ⟨b, o + 1, none⟩ = some x1) : (Instr.loadAt 86 (.pointer (some ⟨b, o, none⟩))).run Try.prog w = .ok (.agg #[x0, x1]) w := by go_simp
theorem sl27_010a {w : World} {a : Option Addr} {n c m : Nat} (h1 : 0 ≤ m) (h2 : m ≤ c) : (Instr.sliceAt 27 (.slice a n c) none (some (.int .i64 (m : Int))) none).run Try.prog w = .ok (.slice a m c) w := by
  have : (0 : Int) ≤ (m : Int) := by omega
  have : (m : Int) ≤ (c : Int) := by omega
  have e : (if c = 0 then a else a.map (fun x => x.add 0)) = a := by split; rfl; cases a <;> rfl
  go_simp <;> exact e
theorem sl29_010a {w : World} {a : Option Addr} {n c m : Nat} (h1 : 0 ≤ m) (h2 : m ≤ c) : (Instr.sliceAt 29 (.slice a n c) none (some (.int .i64 (m : Int))) none).run Try.prog w = .ok (.slice a m c) w := by
  have : (0 : Int) ≤ (m : Int) := by omega
  have : (m : Int) ≤ (c : Int) := by omega
  have e : (if c = 0 then a else a.map (fun x => x.add 0)) = a := by split; rfl; cases a <;> rfl
  go_simp <;> exact e
theorem sl39_010a {w : World} {a : Option Addr} {n c m : Nat} (h1 : 0 ≤ m) (h2 : m ≤ c) : (Instr.sliceAt 39 (.slice a n c) none (some (.int .i64 (m : Int))) none).run Try.prog w = .ok (.slice a m c) w := by
  have : (0 : Int) ≤ (m : Int) := by omega
  have : (m : Int) ≤ (c : Int) := by omega
  have e : (if c = 0 then a else a.map (fun x => x.add 0)) = a := by split; rfl; cases a <;> rfl
  go_simp <;> exact e
theorem sl39_010 {w : World} {b o n c m : Nat} (h1 : 0 ≤ m) (h2 : m ≤ c) : (Instr.sliceAt 39 (.slice (some ⟨b, o, none⟩) n c) none (some (.int .i64 (m : Int))) none).run Try.prog w = .ok (.slice (some ⟨b, o, none⟩) m c) w := sl39_010a h1 h2
theorem sl39_100 {w : World} {b o n c k : Nat} (h1 : k ≤ n) (h2 : n ≤ c) (h4 : k ≠ c) : (Instr.sliceAt 39 (.slice (some ⟨b, o, none⟩) n c) (some (.int .i64 (k : Int))) none none).run Try.prog w = .ok (.slice (some ⟨b, o + k, none⟩) (n - k) (c - k)) w := by
  have : (0 : Int) ≤ (k : Int) := by omega
  have : (k : Int) ≤ (n : Int) := by omega
  have : (n : Int) ≤ (c : Int) := by omega
  have : ¬ c = k := by omega
  go_simp
theorem sn_setK3 {ev : Operand → Value} {oi : Oper} {w : World} {N : Value → World → Prop} {O j : Nat} {u0 v0 u1 v1 u2 v2 : Value} (h1 : (execOp ev oi).run Try.prog w = .ok .skip (((w.setCell ⟨O, j, none⟩ v0).setCell ⟨O, j + 1, none⟩ v1).setCell ⟨O, j + 2, none⟩ v2)) (b0 : BoxAt w O j u0) (b1 : BoxAt w O (j + 1) u1) (b2 : BoxAt w O (j + 2) u2)
    (h : ∀ X, Turns O w X → BoxAt X O j v0 → BoxAt X O (j + 1) v1 → BoxAt X O (j + 2) v2 → (∀ i x, i ≠ j → i ≠ (j + 1) → i ≠ (j + 2) → BoxAt w O i x → BoxAt X O i x) → N undef X) : StepN Try.prog ev oi w N := by
  have k : ∀ (W : World) (j : Nat) (u v : Value), BoxAt W O j u → BoxAt (W.setCell ⟨O, j, none⟩ v) O j v := fun W j u v hO => ⟨by have := hO.1; simp [go_sem, this], by have := hO.2; simpa [go_sem] using this⟩
  have k2 : ∀ (W : World) (j i : Nat) (x v : Value), i ≠ j → BoxAt W O i x → BoxAt (W.setCell ⟨O, j, none⟩ v) O i x := fun W j i x v hi hx => ⟨by rw [World.cell?_setCell_other W _ _ _ (fun e => hi (congrArg Addr.off e).symm)]; exact hx.1, by simp [go_sem, hx.2]⟩
  exact sn_skp h1 (h _ (((turns_set _ _ _ _).trans (turns_set _ _ _ _)).trans (turns_set _ _ _ _)) (k2 _ _ _ _ _ (by omega) (k2 _ _ _ _ _ (by omega) (k _ _ _ _ b0))) (k2 _ _ _ _ _ (by omega) (k _ _ _ _ (k2 _ _ _ _ _ (by omega) b1))) (k _ _ _ _ (k2 _ _ _ _ _ (by omega) (k2 _ _ _ _ _ (by omega) b2))) fun i x h0 h1 h2 hx => (k2 _ _ _ _ _ h2 (k2 _ _ _ _ _ h1 (k2 _ _ _ _ _ h0 hx))))
theorem sn_setK4 {ev : Operand → Value} {oi : Oper} {w : World} {N : Value → World → Prop} {O j : Nat} {u0 v0 u1 v1 u2 v2 u3 v3 : Value} (h1 : (execOp ev oi).run Try.prog w = .ok .skip ((((w.setCell ⟨O, j, none⟩ v0).setCell ⟨O, j + 1, none⟩ v1).setCell ⟨O, j + 2, none⟩ v2).setCell ⟨O, j + 3, none⟩ v3)) (b0 : BoxAt w O j u0) (b1 : BoxAt w O (j + 1) u1) (b2 : BoxAt w O (j + 2) u2) (b3 : BoxAt w O (j + 3) u3)
    (h : ∀ X, Turns O w X → BoxAt X O j v0 → BoxAt X O (j + 1) v1 → BoxAt X O (j + 2) v2 → BoxAt X O (j + 3) v3 → (∀ i x, i ≠ j → i ≠ (j + 1) → i ≠ (j + 2) → i ≠ (j + 3) → BoxAt w O i x → BoxAt X O i x) → N undef X) : StepN Try.prog ev oi w N := by
  have k : ∀ (W : World) (j : Nat) (u v : Value), BoxAt W O j u → BoxAt (W.setCell ⟨O, j, none⟩ v) O j v := fun W j u v hO => ⟨by have := hO.1; simp [go_sem, this], by have := hO.2; simpa [go_sem] using this⟩
  have k2 : ∀ (W : World) (j i : Nat) (x v : Value), i ≠ j → BoxAt W O i x → BoxAt (W.setCell ⟨O, j, none⟩ v) O i x := fun W j i x v hi hx => ⟨by rw [World.cell?_setCell_other W _ _ _ (fun e => hi (congrArg Addr.off e).symm)]; exact hx.1, by simp [go_sem, hx.2]⟩
  exact sn_skp h1 (h _ ((((turns_set _ _ _ _).trans (turns_set _ _ _ _)).trans (turns_set _ _ _ _)).trans (turns_set _ _ _ _)) (k2 _ _ _ _ _ (by omega) (k2 _ _ _ _ _ (by omega) (k2 _ _ _ _ _ (by omega) (k _ _ _ _ b0)))) (k2 _ _ _ _ _ (by omega) (k2 _ _ _ _ _ (by omega) (k _ _ _ _ (k2 _ _ _ _ _ (by omega) b1)))) (k2 _ _ _ _ _ (by omega) (k _ _ _ _ (k2 _ _ _ _ _ (by omega) (k2 _ _ _ _ _ (by omega) b2)))) (k _ _ _ _ (k2 _ _ _ _ _ (by omega) (k2 _ _ _ _ _ (by omega) (k2 _ _ _ _ _ (by omega) b3)))) fun i x h0 h1 h2 h3 hx => (k2 _ _ _ _ _ h3 (k2 _ _ _ _ _ h2 (k2 _ _ _ _ _ h1 (k2 _ _ _ _ _ h0 hx)))))
theorem sn_setK9 {ev : Operand → Value} {oi : Oper} {w : World} {N : Value → World → Prop} {O j : Nat} {u0 v0 u1 v1 u2 v2 u3 v3 u4 v4 u5 v5 u6 v6 u7 v7 u8 v8 : Value} (h1 : (execOp ev oi).run Try.prog w = .ok .skip (((((((((w.setCell ⟨O, j, none⟩ v0).setCell ⟨O, j + 1, none⟩ v1).setCell ⟨O, j + 2, none⟩ v2).setCell ⟨O, j + 3, none⟩ v3).setCell ⟨O, j + 4, none⟩ v4).setCell ⟨O, j + 5, none⟩ v5).setCell ⟨O, j + 6, none⟩ v6).setCell ⟨O, j + 7, none⟩ v7).setCell ⟨O, j + 8, none⟩ v8)) (b0 : BoxAt w O j u0) (b1 : BoxAt w O (j + 1) u1) (b2 : BoxAt w O (j + 2) u2) (b3 : BoxAt w O (j + 3) u3) (b4 : BoxAt w O (j + 4) u4) (b5 : BoxAt w O (j + 5) u5) (b6 : BoxAt w O (j + 6) u6) (b7 : BoxAt w O (j + 7) u7) (b8 : BoxAt w O (j + 8) u8)
    (h : ∀ X, Turns O w X → BoxAt X O j v0 → BoxAt X O (j + 1) v1 → BoxAt X O (j + 2) v2 → BoxAt X O (j + 3) v3 → BoxAt X O (j + 4) v4 → BoxAt X O (j + 5) v5 → BoxAt X O (j + 6) v6 → BoxAt X O (j + 7) v7 → BoxAt X O (j + 8) v8 → (∀ i x, i ≠ j → i ≠ (j + 1) → i ≠ (j + 2) → i ≠ (j + 3) → i ≠ (j + 4) → i ≠ (j + 5) → i ≠ (j + 6) → i ≠ (j + 7) → i ≠ (j + 8) → BoxAt w O i x → BoxAt X O i x) → N undef X) : StepN Try.prog ev oi w N := by
  have k : ∀ (W : World) (j : Nat) (u v : Value), BoxAt W O j u → BoxAt (W.setCell ⟨O, j, none⟩ v) O j v := fun W j u v hO => ⟨by have := hO.1; simp [go_sem, this], by have := hO.2; simpa [go_sem] using this⟩
  have k2 : ∀ (W : World) (j i : Nat) (x v : Value), i ≠ j → BoxAt W O i x → BoxAt (W.setCell ⟨O, j, none⟩ v) O i x := fun W j i x v hi hx => ⟨by rw [World.cell?_setCell_other W _ _ _ (fun e => hi (congrArg Addr.off e).symm)]; exact hx.1, by simp [go_sem, hx.2]⟩
  exact sn_skp h1 (h _ (((((((((turns_set _ _ _ _).trans (turns_set _ _ _ _)).trans (turns_set _ _ _ _)).trans (turns_set _ _ _ _)).trans (turns_set _ _ _ _)).trans (turns_set _ _ _ _)).trans (turns_set _ _ _ _)).trans (turns_set _ _ _ _)).trans (turns_set _ _ _ _)) (k2 _ _ _ _ _ (by omega) (k2 _ _ _ _ _ (by omega) (k2 _ _ _ _ _ (by omega) (k2 _ _ _ _ _ (by omega) (k2 _ _ _ _ _ (by omega) (k2 _ _ _ _ _ (by omega) (k2 _ _ _ _ _ (by omega) (k2 _ _ _ _ _ (by omega) (k _ _ _ _ b0))))))))) (k2 _ _ _ _ _ (by omega) (k2 _ _ _ _ _ (by omega) (k2 _ _ _ _ _ (by omega) (k2 _ _ _ _ _ (by omega) (k2 _ _ _ _ _ (by omega) (k2 _ _ _ _ _ (by omega) (k2 _ _ _ _ _ (by omega) (k _ _ _ _ (k2 _ _ _ _ _ (by omega) b1))))))))) (k2 _ _ _ _ _ (by omega) (k2 _ _ _ _ _ (by omega) (k2 _ _ _ _ _ (by omega) (k2 _ _ _ _ _ (by omega) (k2 _ _ _ _ _ (by omega) (k2 _ _ _ _ _ (by omega) (k _ _ _ _ (k2 _ _ _ _ _ (by omega) (k2 _ _ _ _ _ (by omega) b2))))))))) (k2 _ _ _ _ _ (by omega) (k2 _ _ _ _ _ (by omega) (k2 _ _ _ _ _ (by omega) (k2 _ _ _ _ _ (by omega) (k2 _ _ _ _ _ (by omega) (k _ _ _ _ (k2 _ _ _ _ _ (by omega) (k2 _ _ _ _ _ (by omega) (k2 _ _ _ _ _ (by omega) b3))))))))) (k2 _ _ _ _ _ (by omega) (k2 _ _ _ _ _ (by omega) (k2 _ _ _ _ _ (by omega) (k2 _ _ _ _ _ (by omega) (k _ _ _ _ (k2 _ _ _ _ _ (by omega) (k2 _ _ _ _ _ (by omega) (k2 _ _ _ _ _ (by omega) (k2 _ _ _ _ _ (by omega) b4))))))))) (k2 _ _ _ _ _ (by omega) (k2 _ _ _ _ _ (by omega) (k2 _ _ _ _ _ (by omega) (k _ _ _ _ (k2 _ _ _ _ _ (by omega) (k2 _ _ _ _ _ (by omega) (k2 _ _ _ _ _ (by omega) (k2 _ _ _ _ _ (by omega) (k2 _ _ _ _ _ (by omega) b5))))))))) (k2 _ _ _ _ _ (by omega) (k2 _ _ _ _ _ (by omega) (k _ _ _ _ (k2 _ _ _ _ _ (by omega) (k2 _ _ _ _ _ (by omega) (k2 _ _ _ _ _ (by omega) (k2 _ _ _ _ _ (by omega) (k2 _ _ _ _ _ (by omega) (k2 _ _ _ _ _ (by omega) b6))))))))) (k2 _ _ _ _ _ (by omega) (k _ _ _ _ (k2 _ _ _ _ _ (by omega) (k2 _ _ _ _ _ (by omega) (k2 _ _ _ _ _ (by omega) (k2 _ _ _ _ _ (by omega) (k2 _ _ _ _ _ (by omega) (k2 _ _ _ _ _ (by omega) (k2 _ _ _ _ _ (by omega) b7))))))))) (k _ _ _ _ (k2 _ _ _ _ _ (by omega) (k2 _ _ _ _ _ (by omega) (k2 _ _ _ _ _ (by omega) (k2 _ _ _ _ _ (by omega) (k2 _ _ _ _ _ (by omega) (k2 _ _ _ _ _ (by omega) (k2 _ _ _ _ _ (by omega) (k2 _ _ _ _ _ (by omega) b8))))))))) fun i x h0 h1 h2 h3 h4 h5 h6 h7 h8 hx => (k2 _ _ _ _ _ h8 (k2 _ _ _ _ _ h7 (k2 _ _ _ _ _ h6 (k2 _ _ _ _ _ h5 (k2 _ _ _ _ _ h4 (k2 _ _ _ _ _ h3 (k2 _ _ _ _ _ h2 (k2 _ _ _ _ _ h1 (k2 _ _ _ _ _ h0 hx))))))))))
theorem st24 {w : World} {b o : Nat} {u0 u1 : Value} {x0 : Int} {x1 : Int} (h0 : w.cell? ⟨b, o, none⟩ = some u0) (f0 : w.frozen? ⟨b, o, none⟩ = false) (h1 : w.cell? ⟨b, o + 1, none⟩ = some u1) (f1 : w.frozen? ⟨b, o + 1, none⟩ = false) : (Instr.storeAt 24 (.pointer (some ⟨b, o, none⟩)) (.agg #[(.int .i64 x0), (.int .i64 x1)])).run Try.prog w = .ok () ((w.setCell ⟨b, o, none⟩ (.int .i64 x0)).setCell ⟨b, o + 1, none⟩ (.int .i64 x1)) := by go_simp
theorem st26 {w : World} {b o : Nat} {u0 u1 u2 u3 : Value} {x0 : Int} {x1 : Int} {x2 : Int} {x3 : Int} (h0 : w.cell? ⟨b, o, none⟩ = some u0) (f0 : w.frozen? ⟨b, o, none⟩ = false) (h1 : w.cell? ⟨b, o + 1, none⟩ = some u1) (f1 : w.frozen? ⟨b, o + 1, none⟩ = false) (h2 : w.cell? ⟨b, o + 2, none⟩ = some u2) (f2 : w.frozen? ⟨b, o + 2, none⟩ = false) (h3 : w.cell? ⟨b, o + 3, none⟩ = some u3) (f3 : w.frozen? ⟨b, o + 3, none⟩ = false) : (Instr.storeAt 26 (.pointer (some ⟨b, o, none⟩)) (.agg #[(.int .i64 x0), (.int .i64 x1), (.int .i64 x2), (.int .i64 x3)])).run Try.prog w = .ok () ((((w.setCell ⟨b, o, none⟩ (.int .i64 x0)).setCell ⟨b, o + 1, none⟩ (.int .i64 x1)).setCell ⟨b, o + 2, none⟩ (.int .i64 x2)).setCell ⟨b, o + 3, none⟩ (.int .i64 x3)) := by go_simp
theorem st29 {w : World} {b o : Nat} {u0 : Value} {a0 : Option Addr} {n0 c0 : Nat} (h0 : w.cell? ⟨b, o, none⟩ = some u0) (f0 : w.frozen? ⟨b, o, none⟩ = false) : (Instr.storeAt 29 (.pointer (some ⟨b, o, none⟩)) ((.slice a0 n0 c0))).run Try.prog w = .ok () (w.setCell ⟨b, o, none⟩ (.slice a0 n0 c0)) := by go_simp
theorem st3 {w : World} {b o : Nat} {u0 : Value} {x0 : Int} (h0 : w.cell? ⟨b, o, none⟩ = some u0) (f0 : w.frozen? ⟨b, o, none⟩ = false) : (Instr.storeAt 3 (.pointer (some ⟨b, o, none⟩)) ((.int .i64 x0))).run Try.prog w = .ok () (w.setCell ⟨b, o, none⟩ (.int .i64 x0)) := by go_simp
theorem st31 {w : World} {b o : Nat} {u0 u1 u2 u3 u4 u5 u6 u7 u8 : Value} {x0 : Int} {x1 : Int} {x2 : Int} {x3 : Int} {x4 : Int} {x5 : Int} {x6 : Int} {x7 : Int} {a8 : Option Addr} {n8 c8 : Nat} (h0 : w.cell? ⟨b, o, none⟩ = some u0) (f0 : w.frozen? ⟨b, o, none⟩ = false) (h1 : w.cell? ⟨b, o + 1, none⟩ = some u1) (f1 : w.frozen? ⟨b, o + 1, none⟩ = false) (h2 : w.cell? ⟨b, o + 2, none⟩ = some u2) (f2 : w.frozen? ⟨b, o + 2, none⟩ = false) (h3 : w.cell? ⟨b, o + 3, none⟩ = some u3) (f3 : w.frozen? ⟨b, o + 3, none⟩ = false) (h4 : w.cell? ⟨b, o + 4, none⟩ = some u4) (f4 : w.frozen? ⟨b, o + 4, none⟩ = false) (h5 : w.cell? ⟨b, o + 5, none⟩ = some u5) (f5 : w.frozen? ⟨b, o + 5, none⟩ = false) (h6 : w.cell? ⟨b, o + 6, none⟩ = some u6) (f6 : w.frozen? ⟨b, o + 6, none⟩ = false) (h7 : w.cell? ⟨b, o + 7, none⟩ = some u7) (f7 : w.frozen? ⟨b, o + 7, none⟩ = false) (h8 : w.cell? ⟨b, o + 8, none⟩ = some u8) (f8 : w.frozen? ⟨b, o + 8, none⟩ = false) : (Instr.storeAt 31 (.pointer (some ⟨b, o, none⟩)) (.agg #[(.int .i64 x0), (.int .i64 x1), (.int .i64 x2), (.int .i64 x3), (.int .i64 x4), (.int .i64 x5), (.int .i64 x6), (.int .i64 x7), (.slice a8 n8 c8)])).run Try.prog w = .ok () (((((((((w.setCell ⟨b, o, none⟩ (.int .i64 x0)).setCell ⟨b, o + 1, none⟩ (.int .i64 x1)).setCell ⟨b, o + 2, none⟩ (.int .i64 x2)).setCell ⟨b, o + 3, none⟩ (.int .i64 x3)).setCell ⟨b, o + 4, none⟩ (.int .i64 x4)).setCell ⟨b, o + 5, none⟩ (.int .i64 x5)).setCell ⟨b, o + 6, none⟩ (.int .i64 x6)).setCell ⟨b, o + 7, none⟩ (.int .i64 x7)).setCell ⟨b, o + 8, none⟩ (.slice a8 n8 c8)) := by go_simp
theorem st36 {w : World} {b o : Nat} {u0 : Value} {x0 : Int} (h0 : w.cell? ⟨b, o, none⟩ = some u0) (f0 : w.frozen? ⟨b, o, none⟩ = false) : (Instr.storeAt 36 (.pointer (some ⟨b, o, none⟩)) ((.int .i64 x0))).run Try.prog w = .ok () (w.setCell ⟨b, o, none⟩ (.int .i64 x0)) := by go_simp
theorem st39 {w : World} {b o : Nat} {u0 : Value} {a0 : Option Addr} {n0 c0 : Nat} (h0 : w.cell? ⟨b, o, none⟩ = some u0) (f0 : w.frozen? ⟨b, o, none⟩ = false) : (Instr.storeAt 39 (.pointer (some ⟨b, o, none⟩)) ((.slice a0 n0 c0))).run Try.prog w = .ok () (w.setCell ⟨b, o, none⟩ (.slice a0 n0 c0)) := by go_simp
theorem st4 {w : World} {b o : Nat} {u0 : Value} {x0 : Bool} (h0 : w.cell? ⟨b, o, none⟩ = some u0) (f0 : w.frozen? ⟨b, o, none⟩ = false) : (Instr.storeAt 4 (.pointer (some ⟨b, o, none⟩)) ((.bool x0))).run Try.prog w = .ok () (w.setCell ⟨b, o, none⟩ (.bool x0)) := by go_simp
theorem st44 {w : World} {b o : Nat} {u0 u1 : Value} {x0 : Int} {x1 : Int} (h0 : w.cell? ⟨b, o, none⟩ = some u0) (f0 : w.frozen? ⟨b, o, none⟩ = false) (h1 : w.cell? ⟨b, o + 1, none⟩ = some u1) (f1 : w.frozen? ⟨b, o + 1, none⟩ = false) : (Instr.storeAt 44 (.pointer (some ⟨b, o, none⟩)) (.agg #[(.int .i64 x0), (.int .i64 x1)])).run Try.prog w = .ok () ((w.setCell ⟨b, o, none⟩ (.int .i64 x0)).setCell ⟨b, o + 1, none⟩ (.int .i64 x1)) := by go_simp
theorem st56 {w : World} {b o : Nat} {u0 : Value} {a0 : Option Addr} {n0 c0 : Nat} (h0 : w.cell? ⟨b, o, none⟩ = some u0) (f0 : w.frozen? ⟨b, o, none⟩ = false) : (Instr.storeAt 56 (.pointer (some ⟨b, o, none⟩)) ((.slice a0 n0 c0))).run Try.prog w = .ok () (w.setCell ⟨b, o, none⟩ (.slice a0 n0 c0)) := by go_simp
theorem st61 {w : World} {b o : Nat} {u0 u1 u2 : Value} {x0 : Int} {x1 : Int} {x2 : Int} (h0 : w.cell? ⟨b, o, none⟩ = some u0) (f0 : w.frozen? ⟨b, o, none⟩ = false) (h1 : w.cell? ⟨b, o + 1, none⟩ = some u1) (f1 : w.frozen? ⟨b, o + 1, none⟩ = false) (h2 : w.cell? ⟨b, o + 2, none⟩ = some u2) (f2 : w.frozen? ⟨b, o + 2, none⟩ = false) : (Instr.storeAt 61 (.pointer (some ⟨b, o, none⟩)) (.agg #[(.int .i64 x0), (.int .i64 x1), (.int .i64 x2)])).run Try.prog w = .ok () (((w.setCell ⟨b, o, none⟩ (.int .i64 x0)).setCell ⟨b, o + 1, none⟩ (.int .i64 x1)).setCell ⟨b, o + 2, none⟩ (.int .i64 x2)) := by go_simp
theorem st86 {w : World} {b o : Nat} {u0 u1 : Value} {x0 : Int} {x1 : Int} (h0 : w.cell? ⟨b, o, none⟩ = some u0) (f0 : w.frozen? ⟨b, o, none⟩ = false) (h1 : w.cell? ⟨b, o + 1, none⟩ = some u1) (f1 : w.frozen? ⟨b, o + 1, none⟩ = false) : (Instr.storeAt 86 (.pointer (some ⟨b, o, none⟩)) (.agg #[(.int .i64 x0), (.int .i64 x1)])).run Try.prog w = .ok () ((w.setCell ⟨b, o, none⟩ (.int .i64 x0)).setCell ⟨b, o + 1, none⟩ (.int .i64 x1)) := by go_simp

end Go.Proofs.Ytnbjjddfcondlaa

/- Contracts of package memory: the comparison of steps. -/
namespace Go.Proofs.Ytnbjjddfcondlaa
open Go.RowKit

namespace Mem
def cmpI (a b : Int) : Int := if a < b then -1 else if a > b then 1 else 0
theorem cmpI_neg {a b : Int} : cmpI a b < 0 ↔ a < b := by unfold cmpI; split <;> (try split) <;> omega
end Mem
set_option maxRecDepth 1000000 in
set_option maxHeartbeats 4000000 in
theorem isNaN_g (x : Int) (w : World) : Calls Try.prog 62 #[.int .i64 x] w fun e w' => e = .returned (.bool false) ∧ Gro w w' := by
  have hG : Gro w w := Gro.refl w
  refine calls_cw 6 [(0, .int .i64 (x : Int))] Try.func62 rfl Try.ntmps62 (by kernel_rfl) (by kernel_rfl) (fun L => ?_)
  have hE : Ext w w := Ext.refl w
  refine cw_seq ?_
  refine cw_plain ?_
  refine pT (.bool false) ?_
  refine pl_nil ?_
  refine qw_then ?_
  refine cw_seq ?_
  refine cw_plain ?_
  refine pT (.int .i64 (x : Int)) ?_
  refine pT (.int .i64 (x : Int)) ?_
  refine pl_take (.bool false) rfl (by kernel_rfl) (by kernel_rfl) (by kernel_rfl) (ev_bool (show _ = Result.ok (Next.value (Value.bool ((x : Int) != x))) _ from by kernel_rfl) (bne_self_eq_false _)) ?_
  refine pT (.bool false) ?_
  refine pl_nil ?_
  refine qw_then ?_
  refine cw_ret ?_
  refine qw_ret [.bool false] rfl ⟨(by kernel_rfl), trivial⟩ ?_
  exact ⟨rfl, hG⟩
set_option maxRecDepth 1000000 in
set_option maxHeartbeats 4000000 in
theorem Compare_g (a b : Int) (w : World) : Calls Try.prog 54 #[.int .i64 a, .int .i64 b] w fun e w' => e = .returned (.int .i64 (Mem.cmpI a b)) ∧ Gro w w' := by
  have hG : Gro w w := Gro.refl w
  refine calls_cw 20 [(1, .int .i64 (b : Int)), (0, .int .i64 (a : Int))] Try.func54 rfl Try.ntmps54 (by kernel_rfl) (by kernel_rfl) (fun L => ?_)
  have hE : Ext w w := Ext.refl w
  refine cw_seq ?_
  refine cw_plain ?_
  refine pT (.int .i64 0) ?_
  refine pl_nil ?_
  refine qw_then ?_
  refine cw_seq ?_
  refine cw_plain ?_
  refine pT (.int .i64 (a : Int)) ?_
  refine pl_step rfl (by kernel_rfl) (by kernel_rfl) (by kernel_rfl) (sn_call (f := 62) (args := #[.int .i64 (a : Int)]) (by kernel_rfl) ((isNaN_g a _).mono ?_))
  rintro e w1 ⟨rfl, hb⟩
  have hgx := hb; replace hb := hgx.ext; replace hG := hG.trans hgx; clear hgx
  replace hE := hE.trans hb
  have hs2 := hb.size
  clear hb
  refine ⟨_, rfl, ?_⟩
  refine pT (.bool false) ?_
  refine pl_nil ?_
  refine qw_then ?_
  refine cw_seq ?_
  refine cw_plain ?_
  refine pT (.int .i64 (b : Int)) ?_
  refine pl_step rfl (by kernel_rfl) (by kernel_rfl) (by kernel_rfl) (sn_call (f := 62) (args := #[.int .i64 (b : Int)]) (by kernel_rfl) ((isNaN_g b _).mono ?_))
  rintro e w3 ⟨rfl, hb⟩
  have hgx := hb; replace hb := hgx.ext; replace hG := hG.trans hgx; clear hgx
  replace hE := hE.trans hb
  have hs4 := hb.size
  clear hb
  refine ⟨_, rfl, ?_⟩
  refine pT (.bool false) ?_
  refine pl_nil ?_
  refine qw_then ?_
  refine cw_seq ?_
  refine cw_seq ?_
  refine cw_plain ?_
  refine pT (.bool false) ?_
  refine pl_nil ?_
  refine qw_then ?_
  refine cw_f (by kernel_rfl) ?_
  refine cw_skip ?_
  refine qw_then ?_
  refine cw_seq ?_
  refine cw_seq ?_
  refine cw_plain ?_
  refine pT (.bool false) ?_
  refine pl_nil ?_
  refine qw_then ?_
  refine cw_f (by kernel_rfl) ?_
  refine cw_skip ?_
  refine qw_then ?_
  refine cw_seq ?_
  refine cw_seq ?_
  refine cw_plain ?_
  refine pT (.int .i64 (a : Int)) ?_
  refine pT (.int .i64 (b : Int)) ?_
  by_cases hc5 : (a : Int) < (b : Int)
  ·
    refine pl_take (.bool true) rfl (by kernel_rfl) (by kernel_rfl) (by kernel_rfl) (ev_dec (show _ = Result.ok (Next.value (Value.bool (decide ((a : Int) < (b : Int))))) _ from by kernel_rfl) (hc5)) ?_
    refine pl_nil ?_
    refine qw_then ?_
    refine cw_t (by kernel_rfl) ?_
    refine cw_seq ?_
    refine cw_plain ?_
    refine pT (.int .i64 (-1 : Int)) ?_
    refine pl_nil ?_
    refine qw_then ?_
    refine cw_ret ?_
    refine qw_then_ret ?_
    refine qw_ret [.int .i64 (-1 : Int)] rfl ⟨(by kernel_rfl), trivial⟩ ?_
    exact ⟨congrArg (fun z => Ending.returned (Value.int .i64 z)) (show (-1 : Int) = Mem.cmpI a b by unfold Mem.cmpI; simp [hc5]), hG⟩
  ·
    refine pl_take (.bool false) rfl (by kernel_rfl) (by kernel_rfl) (by kernel_rfl) (ev_ndec (show _ = Result.ok (Next.value (Value.bool (decide ((a : Int) < (b : Int))))) _ from by kernel_rfl) (hc5)) ?_
    refine pl_nil ?_
    refine qw_then ?_
    refine cw_f (by kernel_rfl) ?_
    refine cw_skip ?_
    refine qw_then ?_
    refine cw_seq ?_
    refine cw_seq ?_
    refine cw_plain ?_
    refine pT (.int .i64 (a : Int)) ?_
    refine pT (.int .i64 (b : Int)) ?_
    by_cases hc6 : (a : Int) > (b : Int)
    ·
      refine pl_take (.bool true) rfl (by kernel_rfl) (by kernel_rfl) (by kernel_rfl) (ev_dec (show _ = Result.ok (Next.value (Value.bool (decide ((a : Int) > (b : Int))))) _ from by kernel_rfl) (hc6)) ?_
      refine pl_nil ?_
      refine qw_then ?_
      refine cw_clean [19] (ws' := [(19, .bool true)]) (by kernel_rfl) (fun L => ?_)
      refine cw_t (by kernel_rfl) ?_
      refine cw_seq ?_
      refine cw_plain ?_
      refine pT (.int .i64 1) ?_
      refine pl_nil ?_
      refine qw_then ?_
      refine cw_ret ?_
      refine qw_then_ret ?_
      refine qw_ret [.int .i64 1] rfl ⟨(by kernel_rfl), trivial⟩ ?_
      exact ⟨congrArg (fun z => Ending.returned (Value.int .i64 z)) (show (1 : Int) = Mem.cmpI a b by unfold Mem.cmpI; simp [hc5, hc6]), hG⟩
    ·
      refine pl_take (.bool false) rfl (by kernel_rfl) (by kernel_rfl) (by kernel_rfl) (ev_ndec (show _ = Result.ok (Next.value (Value.bool (decide ((a : Int) > (b : Int))))) _ from by kernel_rfl) (hc6)) ?_
      refine pl_nil ?_
      refine qw_then ?_
      refine cw_clean [19] (ws' := [(19, .bool false)]) (by kernel_rfl) (fun L => ?_)
      refine cw_f (by kernel_rfl) ?_
      refine cw_skip ?_
      refine qw_then ?_
      refine cw_seq ?_
      refine cw_plain ?_
      refine pT (.int .i64 0) ?_
      refine pl_nil ?_
      refine qw_then ?_
      refine cw_ret ?_
      refine qw_ret [.int .i64 0] rfl ⟨(by kernel_rfl), trivial⟩ ?_
      exact ⟨congrArg (fun z => Ending.returned (Value.int .i64 z)) (show (0 : Int) = Mem.cmpI a b by unfold Mem.cmpI; simp [hc5, hc6]), hG⟩
set_option maxRecDepth 1000000 in
set_option maxHeartbeats 4000000 in
theorem order_g (x y : Mem.Stp) (w : World) : Calls Try.prog 53 #[.agg #[.int .i64 x.1, .int .i64 x.2], .agg #[.int .i64 y.1, .int .i64 y.2]] w fun e w' => e = .returned (.int .i64 (Mem.cmpI x.1 y.1)) ∧ Gro w w' := by
  have hG : Gro w w := Gro.refl w
  refine calls_cw 10 [(1, .agg #[.int .i64 (y.1 : Int), .int .i64 (y.2 : Int)]), (0, .agg #[.int .i64 (x.1 : Int), .int .i64 (x.2 : Int)])] Try.func53 rfl Try.ntmps53 (by kernel_rfl) (by kernel_rfl) (fun L => ?_)
  have hE : Ext w w := Ext.refl w
  refine cw_seq ?_
  refine cw_plain ?_
  refine pl_step rfl (by kernel_rfl) (by kernel_rfl) (by kernel_rfl) (sn_newG (us := #[.int .i64 (x.1 : Int), .int .i64 (x.2 : Int)]) (t := 86) (by kernel_rfl) ?_)
  intro O1 X2 hO hOs hb hbx hgx
  replace hG := hG.trans hgx; clear hgx
  have hzO1 := hO; have hyO1 := hOs; clear hO hOs
  have bO1_0 : BoxAt X2 O1 0 (.int .i64 (x.1 : Int)) := hbx 0 _ rfl
  have bO1_1 : BoxAt X2 O1 1 (.int .i64 (x.2 : Int)) := hbx 1 _ rfl
  clear hbx
  replace hE := hE.trans hb
  have hs3 := hb.size
  clear hb
  have lt4 := bO1_0.lt
  refine pl_step rfl (by kernel_rfl) (by kernel_rfl) (by kernel_rfl) (sn_newG (us := #[.int .i64 (y.1 : Int), .int .i64 (y.2 : Int)]) (t := 86) (by kernel_rfl) ?_)
  intro O5 X6 hO hOs hb hbx hgx
  replace hG := hG.trans hgx; clear hgx
  have hzO5 := hO; have hyO5 := hOs; clear hO hOs
  have bO5_0 : BoxAt X6 O5 0 (.int .i64 (y.1 : Int)) := hbx 0 _ rfl
  have bO5_1 : BoxAt X6 O5 1 (.int .i64 (y.2 : Int)) := hbx 1 _ rfl
  clear hbx
  replace hE := hE.trans hb
  replace bO1_0 := BoxAt.ext hb bO1_0
  replace bO1_1 := BoxAt.ext hb bO1_1
  have hs7 := hb.size
  clear hb
  have lt8 := bO5_0.lt
  refine pT (.int .i64 0) ?_
  refine pl_nil ?_
  refine qw_then ?_
  refine cw_seq ?_
  refine cw_plain ?_
  refine pT (.pointer (some ⟨O1, 0, none⟩)) ?_
  refine pl_take (.int .i64 (x.1 : Int)) rfl (by kernel_rfl) (by kernel_rfl) (by kernel_rfl) (ex_load rfl (by kernel_rfl) (ld3 (bO1_0.1))) ?_
  refine pT (.pointer (some ⟨O5, 0, none⟩)) ?_
  refine pl_take (.int .i64 (y.1 : Int)) rfl (by kernel_rfl) (by kernel_rfl) (by kernel_rfl) (ex_load rfl (by kernel_rfl) (ld3 (bO5_0.1))) ?_
  refine pl_step rfl (by kernel_rfl) (by kernel_rfl) (by kernel_rfl) (sn_call (f := 54) (args := #[.int .i64 (x.1 : Int), .int .i64 (y.1 : Int)]) (by kernel_rfl) ((Compare_g x.1 y.1 _).mono ?_))
  rintro e w9 ⟨rfl, hb⟩
  have hgx := hb; replace hb := hgx.ext; replace hG := hG.trans hgx; clear hgx
  replace hE := hE.trans hb
  replace bO1_0 := BoxAt.ext hb bO1_0
  replace bO1_1 := BoxAt.ext hb bO1_1
  replace bO5_0 := BoxAt.ext hb bO5_0
  replace bO5_1 := BoxAt.ext hb bO5_1
  have hs10 := hb.size
  clear hb
  refine ⟨_, rfl, ?_⟩
  refine pT (.int .i64 (Mem.cmpI x.1 y.1 : Int)) ?_
  refine pl_nil ?_
  refine qw_then ?_
  refine cw_ret ?_
  refine qw_ret [.int .i64 (Mem.cmpI x.1 y.1 : Int)] rfl ⟨(by kernel_rfl), trivial⟩ ?_
  exact ⟨rfl, hG⟩

end Go.Proofs.Ytnbjjddfcondlaa

/- The layings of library functions at this seat, in plain words. -/
namespace Go.Proofs
open Go.Shelf
def Try.sortSt_ren : Go.Shelf.Ren := ⟨fun | 6 => 52 | 15 => 56 | 14 => 61 | 28 => 72 | 29 => 73 | 20 => 76 | 21 => 77 | 22 => 78 | 23 => 79 | 24 => 80 | 25 => 81 | 26 => 82 | 27 => 83 | 46 => 89 | 47 => 85 | 48 => 86 | 49 => 90 | 50 => 91 | 57 => 93 | n => n, fun | 22 => 84 | 24 => 86 | 25 => 88 | 3 => 3 | 39 => 91 | 0 => 0 | 53 => 106 | 55 => 108 | 4 => 4 | 46 => 100 | 45 => 99 | 50 => 94 | 5 => 5 | 9 => 9 | 66 => 115 | 70 => 119 | 76 => 123 | 77 => 124 | n => n, fun | n => n⟩
theorem Try.sortSt : Go.Proofs.SlLaysF0.n6 Try.prog Try.sortSt_ren := {
  mixed := by kernel_rfl
  f6 := ⟨Try.f52.name, by decide, Try.func52.trans (congrArg some (by kernel_rfl))⟩
  f14 := ⟨Try.f61.name, by decide, Try.func61.trans (congrArg some (by kernel_rfl))⟩
  f15 := Try.func56.trans (congrArg some (by kernel_rfl))
  f20 := ⟨Try.f76.name, by decide, Try.func76.trans (congrArg some (by kernel_rfl))⟩
  f21 := ⟨Try.f77.name, by decide, Try.func77.trans (congrArg some (by kernel_rfl))⟩
  f22 := ⟨Try.f78.name, by decide, Try.func78.trans (congrArg some (by kernel_rfl))⟩
  f23 := ⟨Try.f79.name, by decide, Try.func79.trans (congrArg some (by kernel_rfl))⟩
  f24 := ⟨Try.f80.name, by decide, Try.func80.trans (congrArg some (by kernel_rfl))⟩
  f25 := ⟨Try.f81.name, by decide, Try.func81.trans (congrArg some (by kernel_rfl))⟩
  f26 := ⟨Try.f82.name, by decide, Try.func82.trans (congrArg some (by kernel_rfl))⟩
  f27 := ⟨Try.f83.name, by decide, Try.func83.trans (congrArg some (by kernel_rfl))⟩
  f28 := Try.func72.trans (congrArg some (by kernel_rfl))
  f29 := Try.func73.trans (congrArg some (by kernel_rfl))
  f46 := ⟨Try.f89.name, by decide, Try.func89.trans (congrArg some (by kernel_rfl))⟩
  f47 := Try.func85.trans (congrArg some (by kernel_rfl))
  f48 := Try.func86.trans (congrArg some (by kernel_rfl))
  f49 := ⟨Try.f90.name, by decide, Try.func90.trans (congrArg some (by kernel_rfl))⟩
  f50 := ⟨Try.f91.name, by decide, Try.func91.trans (congrArg some (by kernel_rfl))⟩
  f57 := ⟨Try.f93.name, by decide, Try.func93.trans (congrArg some (by kernel_rfl))⟩
  t0 := Try.underlying0
  a0 := Try.isAgg0
  z0 := Try.sizeOf0
  v0 := Try.zeroValue0
  t3 := Try.underlying3
  a3 := Try.isAgg3
  z3 := Try.sizeOf3
  v3 := Try.zeroValue3
  t4 := Try.underlying4
  a4 := Try.isAgg4
  z4 := Try.sizeOf4
  v4 := Try.zeroValue4
  t5 := Try.underlying5
  a5 := Try.isAgg5
  z5 := Try.sizeOf5
  v5 := Try.zeroValue5
  t9 := Try.underlying9
  a9 := Try.isAgg9
  z9 := Try.sizeOf9
  v9 := Try.zeroValue9
  t22 := Try.underlying84
  a22 := Try.isAgg84
  z22 := Try.sizeOf84
  v22 := Try.zeroValue84
  t25 := Try.underlying88
  a25 := Try.isAgg88
  z25 := Try.sizeOf88
  v25 := Try.zeroValue88
  t39 := Try.underlying91
  a39 := Try.isAgg91
  z39 := Try.sizeOf91
  v39 := Try.zeroValue91
  t45 := Try.underlying99
  a45 := Try.isAgg99
  z45 := Try.sizeOf99
  v45 := Try.zeroValue99
  t46 := Try.underlying100
  a46 := Try.isAgg100
  z46 := Try.sizeOf100
  v46 := Try.zeroValue100
  t50 := Try.underlying94
  a50 := Try.isAgg94
  z50 := Try.sizeOf94
  v50 := Try.zeroValue94
  t53 := Try.underlying106
  a53 := Try.isAgg106
  z53 := Try.sizeOf106
  v53 := Try.zeroValue106
  t55 := Try.underlying108
  a55 := Try.isAgg108
  z55 := Try.sizeOf108
  v55 := Try.zeroValue108
  t66 := Try.underlying115
  a66 := Try.isAgg115
  z66 := Try.sizeOf115
  v66 := Try.zeroValue115
  t70 := Try.underlying119
  a70 := Try.isAgg119
  z70 := Try.sizeOf119
  v70 := Try.zeroValue119
  t76 := Try.underlying123
  a76 := Try.isAgg123
  z76 := Try.sizeOf123
  v76 := Try.zeroValue123
  t77 := Try.underlying124
  a77 := Try.isAgg124
  z77 := Try.sizeOf124
  v77 := Try.zeroValue124 }
def Try.sortIn_ren : Go.Shelf.Ren := ⟨fun | 189 => 36 | 125 => 56 | 257 => 55 | 128 => 72 | 129 => 73 | 294 => 63 | 295 => 64 | 296 => 65 | 297 => 66 | 298 => 67 | 299 => 68 | 216 => 69 | 300 => 70 | 301 => 71 | 328 => 84 | 329 => 85 | 330 => 86 | 331 => 87 | 332 => 88 | 215 => 62 | 343 => 92 | n => n, fun | 28 => 56 | 3 => 3 | 46 => 91 | 0 => 0 | 51 => 106 | 53 => 108 | 4 => 4 | 183 => 100 | 182 => 99 | 131 => 94 | 5 => 5 | 9 => 9 | 218 => 115 | 222 => 119 | 228 => 123 | 229 => 124 | n => n, fun | n => n⟩
theorem Try.sortIn : Go.Proofs.Lays.n189 Try.prog Try.sortIn_ren := {
  mixed := by kernel_rfl
  f125 := Try.func56.trans (congrArg some (by kernel_rfl))
  f128 := Try.func72.trans (congrArg some (by kernel_rfl))
  f129 := Try.func73.trans (congrArg some (by kernel_rfl))
  f189 := Try.func36.trans (congrArg some (by kernel_rfl))
  f215 := Try.func62.trans (congrArg some (by kernel_rfl))
  f216 := Try.func69.trans (congrArg some (by kernel_rfl))
  f257 := Try.func55.trans (congrArg some (by kernel_rfl))
  f294 := Try.func63.trans (congrArg some (by kernel_rfl))
  f295 := Try.func64.trans (congrArg some (by kernel_rfl))
  f296 := Try.func65.trans (congrArg some (by kernel_rfl))
  f297 := Try.func66.trans (congrArg some (by kernel_rfl))
  f298 := Try.func67.trans (congrArg some (by kernel_rfl))
  f299 := Try.func68.trans (congrArg some (by kernel_rfl))
  f300 := Try.func70.trans (congrArg some (by kernel_rfl))
  f301 := Try.func71.trans (congrArg some (by kernel_rfl))
  f328 := Try.func84.trans (congrArg some (by kernel_rfl))
  f329 := Try.func85.trans (congrArg some (by kernel_rfl))
  f330 := Try.func86.trans (congrArg some (by kernel_rfl))
  f331 := Try.func87.trans (congrArg some (by kernel_rfl))
  f332 := Try.func88.trans (congrArg some (by kernel_rfl))
  f343 := Try.func92.trans (congrArg some (by kernel_rfl))
  t0 := Try.underlying0
  a0 := Try.isAgg0
  z0 := Try.sizeOf0
  v0 := Try.zeroValue0
  t3 := Try.underlying3
  a3 := Try.isAgg3
  z3 := Try.sizeOf3
  v3 := Try.zeroValue3
  t4 := Try.underlying4
  a4 := Try.isAgg4
  z4 := Try.sizeOf4
  v4 := Try.zeroValue4
  t5 := Try.underlying5
  a5 := Try.isAgg5
  z5 := Try.sizeOf5
  v5 := Try.zeroValue5
  t9 := Try.underlying9
  a9 := Try.isAgg9
  z9 := Try.sizeOf9
  v9 := Try.zeroValue9
  t28 := Try.underlying56
  a28 := Try.isAgg56
  z28 := Try.sizeOf56
  v28 := Try.zeroValue56
  t46 := Try.underlying91
  a46 := Try.isAgg91
  z46 := Try.sizeOf91
  v46 := Try.zeroValue91
  t51 := Try.underlying106
  a51 := Try.isAgg106
  z51 := Try.sizeOf106
  v51 := Try.zeroValue106
  t53 := Try.underlying108
  a53 := Try.isAgg108
  z53 := Try.sizeOf108
  v53 := Try.zeroValue108
  t131 := Try.underlying94
  a131 := Try.isAgg94
  z131 := Try.sizeOf94
  v131 := Try.zeroValue94
  t182 := Try.underlying99
  a182 := Try.isAgg99
  z182 := Try.sizeOf99
  v182 := Try.zeroValue99
  t183 := Try.underlying100
  a183 := Try.isAgg100
  z183 := Try.sizeOf100
  v183 := Try.zeroValue100
  t218 := Try.underlying115
  a218 := Try.isAgg115
  z218 := Try.sizeOf115
  v218 := Try.zeroValue115
  t222 := Try.underlying119
  a222 := Try.isAgg119
  z222 := Try.sizeOf119
  v222 := Try.zeroValue119
  t228 := Try.underlying123
  a228 := Try.isAgg123
  z228 := Try.sizeOf123
  v228 := Try.zeroValue123
  t229 := Try.underlying124
  a229 := Try.isAgg124
  z229 := Try.sizeOf124
  v229 := Try.zeroValue124 }
def Try.compIn_ren : Go.Shelf.Ren := ⟨fun | 43 => 37 | n => n, fun | 22 => 56 | 23 => 3 | 3 => 3 | 4 => 4 | 0 => 0 | n => n, fun | n => n⟩
theorem Try.compIn : Go.Proofs.SlLaysN.n43 Try.prog Try.compIn_ren := {
  mixed := by kernel_rfl
  f43 := ⟨Try.f37.name, by decide, Try.func37.trans (congrArg some (by kernel_rfl))⟩
  t0 := Try.underlying0
  a0 := Try.isAgg0
  z0 := Try.sizeOf0
  v0 := Try.zeroValue0
  t3 := Try.underlying3
  a3 := Try.isAgg3
  z3 := Try.sizeOf3
  v3 := Try.zeroValue3
  t4 := Try.underlying4
  a4 := Try.isAgg4
  z4 := Try.sizeOf4
  v4 := Try.zeroValue4
  t22 := Try.underlying56
  a22 := Try.isAgg56
  z22 := Try.sizeOf56
  v22 := Try.zeroValue56
  t23 := Try.underlying3
  a23 := Try.isAgg3
  z23 := Try.sizeOf3
  v23 := Try.zeroValue3
  i23 := by kernel_rfl }
def Try.clonIn_ren : Go.Shelf.Ren := ⟨fun | 41 => 39 | n => n, fun | 22 => 39 | 23 => 56 | 4 => 4 | n => n, fun | n => n⟩
theorem Try.clonIn : Go.Proofs.SlLaysE0.n41 Try.prog Try.clonIn_ren := {
  mixed := by kernel_rfl
  f41 := ⟨Try.f39.name, by decide, Try.func39.trans (congrArg some (by kernel_rfl))⟩
  t4 := Try.underlying4
  a4 := Try.isAgg4
  z4 := Try.sizeOf4
  v4 := Try.zeroValue4
  t22 := Try.underlying39
  a22 := Try.isAgg39
  z22 := Try.sizeOf39
  v22 := Try.zeroValue39 }
def Try.srchIn_ren : Go.Shelf.Ren := ⟨fun | 49 => 60 | 59 => 69 | 60 => 75 | 68 => 62 | n => n, fun | 22 => 56 | 23 => 3 | 3 => 3 | 4 => 4 | 51 => 91 | 0 => 0 | n => n, fun | n => n⟩
theorem Try.srchIn : Go.Proofs.SlLaysN.n49 Try.prog Try.srchIn_ren := {
  mixed := by kernel_rfl
  f49 := ⟨Try.f60.name, by decide, Try.func60.trans (congrArg some (by kernel_rfl))⟩
  f59 := ⟨Try.f69.name, by decide, Try.func69.trans (congrArg some (by kernel_rfl))⟩
  f60 := ⟨Try.f75.name, by decide, Try.func75.trans (congrArg some (by kernel_rfl))⟩
  f68 := ⟨Try.f62.name, by decide, Try.func62.trans (congrArg some (by kernel_rfl))⟩
  t0 := Try.underlying0
  a0 := Try.isAgg0
  z0 := Try.sizeOf0
  v0 := Try.zeroValue0
  t3 := Try.underlying3
  a3 := Try.isAgg3
  z3 := Try.sizeOf3
  v3 := Try.zeroValue3
  t4 := Try.underlying4
  a4 := Try.isAgg4
  z4 := Try.sizeOf4
  v4 := Try.zeroValue4
  t22 := Try.underlying56
  a22 := Try.isAgg56
  z22 := Try.sizeOf56
  v22 := Try.zeroValue56
  t23 := Try.underlying3
  a23 := Try.isAgg3
  z23 := Try.sizeOf3
  v23 := Try.zeroValue3
  t51 := Try.underlying91
  a51 := Try.isAgg91
  z51 := Try.sizeOf91
  v51 := Try.zeroValue91 }
end Go.Proofs

/- Writing into a block of one's own; a valid area that is being made. -/
namespace Go.Proofs.Ytnbjjddfcondlaa
open Go.RowKit

/-- 2 to the n. -/
def p2 (n : Nat) : Nat := 2 ^ n
/-- What lay below the block that was written reads as it did. -/
theorem Ext.grown {w0 w w' : World} {B : Nat} (h : Ext w0 w) (hg : w.grownBy w' (some B)) (hB : w0.heap.size ≤ B) : Ext w0 w' := Below.grown h hg h.size (fun k e => by cases e; exact hB)
theorem grown_cell {w w' : World} {B : Nat} (hg : w.grownBy w' (some B)) {a : Addr} {v : Value} (h : w.cell? a = some v) (hne : a.block ≠ B) : w'.cell? a = some v := hg.cell h (fun e => hne (by simpa using e))
theorem grown_free {w w' : World} {B : Nat} (hg : w.grownBy w' (some B)) {a : Addr} {v : Value} (h : w.cell? a = some v) (hf : w.frozen? a = false) (hne : a.block ≠ B) : w'.frozen? a = false :=
  (World.frozen?_of_block (hg.block a.block (World.block_lt_of_cell? w a h) (fun e => hne (by simpa using e)))).trans hf
theorem BoxAt.grown {w w' : World} {B : Nat} (hg : w.grownBy w' (some B)) {b o : Nat} {v : Value} (h : BoxAt w b o v) (hne : b ≠ B) : BoxAt w' b o v := ⟨grown_cell hg h.1 hne, grown_free hg h.1 h.2 hne⟩
/-- In the midst of Made: the area's own block B, its box O. -/
def Mk (w : World) (O B : Nat) (wr : World) : Prop :=
  (∃ L, Globe.validL L = true ∧ RowsAt wr B L) ∧ wr.cell? ⟨O, 0, none⟩ = some (.slice (some ⟨B, 0, none⟩) 24 24) ∧ BoxAt wr w.heap.size 0 (.slice none 0 0) ∧ Ext w wr
theorem Mk.ext {w w1 w2 : World} {O B : Nat} (h : Mk w O B w1) (hE : Ext w1 w2) : Mk w O B w2 :=
  ⟨by obtain ⟨L, hv, hr⟩ := h.1; exact ⟨L, hv, hr.ext hE⟩, hE.cell h.2.1, BoxAt.ext hE h.2.2.1, h.2.2.2.trans hE⟩

end Go.Proofs.Ytnbjjddfcondlaa

/- Rows of one's own (slices that are appended to), as worlds grow. -/
namespace Go.Proofs.Ytnbjjddfcondlaa
open Go.RowKit

theorem Ext.grownNone {w w' : World} (h : Ext w w') : w.grownBy w' none := ⟨h.os, h.tape, h.output, Below.size h, fun k hk _ => Below.block h k hk⟩
theorem own_ext {w w' : World} {base : Nat} {e : TypeId} {size : Nat} {v : Value} {n : Nat} {xs : List Value} (h : w.ownsRow base e size v n xs) (hE : Ext w w') : w'.ownsRow base e size v n xs :=
  h.kept hE.grownNone (by cases v.ownBlock <;> simp)
/-- What lies below a slice's own base is as it was. -/
theorem Ext.own {w0 w w' : World} {e : TypeId} {size : Nat} {v : Value} {n : Nat} {xs : List Value} (h : Ext w0 w) (hr : w.ownsRow w0.heap.size e size v n xs) (hg : w.grownBy w' v.ownBlock) : Ext w0 w' :=
  Below.grown h hg h.size (fun k e => (hr.lt k e).1)


theorem VA.grownR {w w' : World} {r : Option Nat} {b o : Nat} {l : List Int} (h : VA w b o l) (hg : w.grownBy w' r) (hne : r ≠ some b) : VA w' b o l := ⟨fun i hi => hg.cell (h.1 i hi) (fun e => hne e.symm), h.2⟩
theorem BoxAt.grownR {w w' : World} {r : Option Nat} {b o : Nat} {v : Value} (h : BoxAt w b o v) (hg : w.grownBy w' r) (hne : r ≠ some b) : BoxAt w' b o v :=
  ⟨hg.cell h.1 (fun e => hne e.symm), (World.frozen?_of_block (hg.block b (World.block_lt_of_cell? w _ h.1) (fun e => hne e.symm))).trans h.2⟩
theorem Ext.own' {w0 w w' : World} {base : Nat} {e : TypeId} {size : Nat} {v : Value} {n : Nat} {xs : List Value} (h : Ext w0 w) (hr : w.ownsRow base e size v n xs) (hb : w0.heap.size ≤ base) (hg : w.grownBy w' v.ownBlock) : Ext w0 w' :=
  Below.grown h hg h.size (fun k e => Nat.le_trans hb (hr.lt k e).1)

end Go.Proofs.Ytnbjjddfcondlaa

/- Lists of elements in memory: lists of one's own that are appended to, and lists that came from anywhere, over any way to read an element's cells. -/
namespace Go.Proofs.Ytnbjjddfcondlaa
open Go.RowKit

/-- A way to read an element's cells: 'rel w c x F': in the world w the cells c read as x; F: the blocks that it looks into. -/
structure Rep (α : Type) where
  rel : World → List Value → α → List Nat → Prop
  keep : ∀ {w w' : World} {c : List Value} {x : α} {F : List Nat}, rel w c x F → (∀ b ∈ F, ∀ o u, w.cell? ⟨b, o, none⟩ = some u → w'.cell? ⟨b, o, none⟩ = some u) → rel w' c x F
  lt : ∀ {w : World} {c : List Value} {x : α} {F : List Nat}, rel w c x F → ∀ b ∈ F, b < w.heap.size
theorem Rep.ext {α : Type} (R : Rep α) {w w' : World} {c : List Value} {x : α} {F : List Nat} (h : R.rel w c x F) (hE : Ext w w') : R.rel w' c x F := R.keep h fun _ _ _ _ hu => hE.cell hu
/-- A list of one's own: it begins nowhere, or at the head of a row of one's own. -/
def OwnL {α : Type} (R : Rep α) (n₀ : Nat) (e : TypeId) (size : Nat) (v : Value) (w : World) (l : List α) : Prop :=
  ∃ cs : List (List Value), cs.length = l.length ∧ (∀ c ∈ cs, c.length = size) ∧ w.ownsRow n₀ e size v l.length cs.flatten ∧
    ∀ (j : Nat) x c, l[j]? = some x → cs[j]? = some c → ∃ F, R.rel w c x F ∧ ∀ b ∈ F, v.ownBlock ≠ some b
/-- Behind it what lies below n₀ is as it was. -/
structure Grew (n₀ : Nat) (w w' : World) : Prop where
  size : w.heap.size ≤ w'.heap.size
  ext : ∀ U, Ext U w → U.heap.size ≤ n₀ → Ext U w'
theorem OwnL.nil {α : Type} (R : Rep α) (n₀ : Nat) (e : TypeId) (size : Nat) (w : World) : OwnL R n₀ e size (.slice none 0 0) w [] := ⟨[], rfl, (fun c hc => by cases hc), World.ownsRow_nil w n₀ e size, (fun j x c hx => by simp at hx)⟩
theorem OwnL.ext {α : Type} {R : Rep α} {n₀ : Nat} {e : TypeId} {size : Nat} {v : Value} {w w' : World} {l : List α} (h : OwnL R n₀ e size v w l) (hE : Ext w w') : OwnL R n₀ e size v w' l := by
  obtain ⟨cs, h1, h2, h3, h4⟩ := h
  exact ⟨cs, h1, h2, own_ext h3 hE, fun j x c hx hc => by obtain ⟨F, q1, q2⟩ := h4 j x c hx hc; exact ⟨F, R.ext q1 hE, q2⟩⟩
theorem OwnL.lt {α : Type} {R : Rep α} {n₀ : Nat} {e : TypeId} {size : Nat} {v : Value} {w : World} {l : List α} (h : OwnL R n₀ e size v w l) : ∀ b, v.ownBlock = some b → b < w.heap.size := by
  obtain ⟨cs, h1, h2, h3, h4⟩ := h
  exact fun b hb => (h3.lt b hb).2
/-- What the program says of a slice type and its elements. -/
structure ElemT (P : Program) (t e : TypeId) (z : Value) (size bytes : Nat) : Prop where
  under : P.underlying t = some (.slice e)
  info : (P.info? e).map (fun i => (i.zero, i.size, i.bytes)) = some (some z, size, bytes)
  zs : z.cells.size = size
  pos : 0 < size
theorem flatten_len {size : Nat} : ∀ {cs : List (List Value)}, (∀ c ∈ cs, c.length = size) → cs.flatten.length = cs.length * size
  | [], _ => by simp
  | c :: r, h => by
    rw [List.flatten_cons, List.length_append, flatten_len (fun d hd => h d (List.mem_cons_of_mem _ hd)), h c (by simp), List.length_cons, Nat.add_mul]; omega
theorem flatten_get {size : Nat} : ∀ {cs : List (List Value)}, (∀ c ∈ cs, c.length = size) → ∀ (j : Nat) {c : List Value}, cs[j]? = some c → ∀ i, i < size → cs.flatten[j * size + i]? = c[i]?
  | [], _, j, c, h, _, _ => by simp at h
  | d :: r, h, 0, c, hc, i, hi => by
    simp at hc; subst hc
    rw [List.flatten_cons, Nat.zero_mul, Nat.zero_add, List.getElem?_append_left (by rw [h d (by simp)]; exact hi)]
  | d :: r, h, j + 1, c, hc, i, hi => by
    have hd := h d (by simp)
    rw [List.flatten_cons, List.getElem?_append_right (by rw [hd, Nat.add_mul]; omega), hd, show (j + 1) * size + i - size = j * size + i by rw [Nat.add_mul]; omega]
    exact flatten_get (fun d hd => h d (List.mem_cons_of_mem _ hd)) j (by simpa using hc) i hi
theorem cells1 {w : World} {O : Nat} {x : Value} (h : w.cell? ⟨O, 0, none⟩ = some x) : ∀ j u, [x][j]? = some u → w.cell? ⟨O, j, none⟩ = some u
  | 0, u, hu => by simp at hu; subst hu; exact h
  | _ + 1, u, hu => by simp at hu
theorem OwnL.base {α : Type} {R : Rep α} {n₀ : Nat} {e : TypeId} {size : Nat} {v : Value} {w : World} {l : List α} (h : OwnL R n₀ e size v w l) : ∀ b, v.ownBlock = some b → n₀ ≤ b := by
  obtain ⟨cs, h1, h2, h3, h4⟩ := h
  exact fun b hb => (h3.lt b hb).1
theorem own_empty {w : World} {base O size : Nat} {e : TypeId} (h : w.heap[O]? = some (.cells #[] e (0, 0))) (hb : base ≤ O) : w.ownsRow base e size (.slice (some ⟨O, 0, none⟩) 0 0) 0 [] :=
  ⟨by simp, .inr ⟨O, 0, #[], rfl, hb, h, Nat.le_refl _, by unfold maxLen; omega, by simp, by simp⟩⟩
theorem OwnL.empty {α : Type} (R : Rep α) {n₀ O : Nat} {e : TypeId} {size : Nat} {w : World} (h : w.heap[O]? = some (.cells #[] e (0, 0))) (hb : n₀ ≤ O) : OwnL R n₀ e size (.slice (some ⟨O, 0, none⟩) 0 0) w [] :=
  ⟨[], rfl, (fun c hc => by cases hc), own_empty h hb, (fun j x c hx => by simp at hx)⟩
/-- As R, where all that is looked into lies at n₀ or behind it. -/
def freshR {α : Type} (n₀ : Nat) (R : Rep α) : Rep α where
  rel w c x F := R.rel w c x F ∧ ∀ b ∈ F, n₀ ≤ b
  keep := fun h hk => ⟨R.keep h.1 hk, h.2⟩
  lt := fun h => R.lt h.1
theorem fresh1 {n B : Nat} (h : n ≤ B) : ∀ b ∈ [B], n ≤ b := fun b hb => by rw [List.mem_singleton.1 hb]; exact h
theorem ex_append {P : Program} {ev : Operand → Value} {o : Oper} {w : World} {x y : Operand} {t1 t2 : TypeId} {v s v' : Value} {w' : World} (hop : o.op = .call { callee := .builtin .append, args := #[x, y], argTypes := #[t1, t2] }) (hx : ev x = v) (hy : ev y = s)
    (h : (Builtin.append_ #[t1, t2] o.type #[v, s]).run P w = .ok v' w') : (execOp ev o).run P w = .ok (.value v') w' := by
  simp [execOp, hop, resolve, invoke, builtin, hx, hy, h, Result.andThen]

end Go.Proofs.Ytnbjjddfcondlaa

/- What a range over a function wants, in the form in which this seat uses it. -/
namespace Go.Proofs.Ytnbjjddfcondlaa
open Go.RowKit

theorem Ext.others {a b : World} (h : Ext a b) : KeepsOthers a b := ⟨h.size, fun k _ ho _ => (Below.block h k (Array.getElem?_eq_some_iff.1 ho).1).trans ho⟩

/-- What lies below n₀ lies as it lay, but for the blocks of X (which a round may write). -/
structure KeepX (n₀ : Nat) (X : Nat → Prop) (A B : World) : Prop where
  size : A.heap.size ≤ B.heap.size
  block : ∀ k, k < n₀ → ¬ X k → B.heap[k]? = A.heap[k]?
theorem KeepX.refl (n₀ : Nat) (X : Nat → Prop) (A : World) : KeepX n₀ X A A := ⟨Nat.le_refl _, fun _ _ _ => rfl⟩
theorem KeepX.trans {n₀ : Nat} {X : Nat → Prop} {A B C : World} (h : KeepX n₀ X A B) (k : KeepX n₀ X B C) : KeepX n₀ X A C :=
  ⟨Nat.le_trans h.size k.size, fun i hi hx => (k.block i hi hx).trans (h.block i hi hx)⟩
theorem KeepX.of_below {n₀ : Nat} {X : Nat → Prop} {A B : World} (h : Below n₀ A B) : KeepX n₀ X A B := ⟨h.size, fun k hk _ => h.block k hk⟩
theorem KeepX.of_ext {n₀ : Nat} {X : Nat → Prop} {A B : World} (h : Ext A B) (hn : n₀ ≤ A.heap.size) : KeepX n₀ X A B := KeepX.of_below (Below.mono h hn)
theorem KeepX.cell {n₀ : Nat} {X : Nat → Prop} {A B : World} (h : KeepX n₀ X A B) {b o : Nat} (hb : b < n₀) (hx : ¬ X b) : B.cell? ⟨b, o, none⟩ = A.cell? ⟨b, o, none⟩ := World.cell?_of_block (w := A) (h.block b hb hx)
theorem KeepX.setCell {n₀ : Nat} {X : Nat → Prop} (A : World) {p : Addr} (hp : X p.block) (u : Value) : KeepX n₀ X A (A.setCell p u) :=
  ⟨by simp [World.setCell], fun k _ hx => Below.heap_setCell _ _ _ _ (fun e => hx (e ▸ hp))⟩
theorem KeepX.putObj {n₀ : Nat} {X : Nat → Prop} {w : World} (hn : n₀ ≤ w.heap.size) (W : World) (l : Nat) (o o' : Obj) (hl : w.heap.size ≤ l) (h : W.heap[l]? = some o) (hc : o.isCells = false) (hw : o.isWalk = false) : KeepX n₀ X W (W.putObj l o') :=
  KeepX.of_below (belowK_b hn W l o o' hl h hc hw)

end Go.Proofs.Ytnbjjddfcondlaa

/- A range over a function whose yields hand on memory: the round may lean on a fact Φ of what it is handed (a list that has just been laid, say). The iterator shows Φ at each of its calls of yield. -/
namespace Go.Proofs.Ytnbjjddfcondlaa
open Go.RowKit

/-- The loop's record. -/
def recOf (a : Act) (ps : Array Tmp) (assign body : Code) (fn : FuncId) (D : Nat) (st : LoopState) (pe : Option Code) : Loop := { state := st, pending := pe, fn, tmps := a.tmps, params := ps, assign, body, defers := D }

/-- Leaving with the marks of several such loops: each block for deferred calls is taken over, and is empty. -/
theorem leaves_marks {F : Fence} {n : Nat} {P : Program} {fn : Func} {tmps : Array Value} {R : Ending → World → Prop} (n₀ : Nat) (Pw : World → Prop)
    (hP : ∀ D W, n₀ ≤ D → Pw W → W.heap[D]? = some (.deferred (some [])) → Pw (W.putObj D (.deferred none))) (hend : ∀ W, Pw W → LeavesIn F n P fn tmps R [] .returning W) :
    ∀ (Ds : List Nat) (W : World), Ds.Nodup → (∀ D ∈ Ds, n₀ ≤ D ∧ W.heap[D]? = some (.deferred (some []))) → Pw W → LeavesInM F n P fn tmps R (Ds.map fun D => { target := .collected D, args := #[] }) .returning W
  | [], W, _, _, h => hend W h
  | D :: r, W, hn, hd, h => by
    obtain ⟨hD, hn'⟩ := List.nodup_cons.1 hn
    obtain ⟨h0, h1⟩ := hd D (by simp)
    refine ⟨by simp, .inl ⟨D, _, rfl, run_takeDeferred h1, ?_⟩⟩
    refine leaves_marks n₀ Pw hP hend r _ hn' (fun D' hD' => ?_) (hP D W h0 h h1)
    obtain ⟨q0, q1⟩ := hd D' (by simp [hD'])
    exact ⟨q0, (World.putObj_heap_other (fun e => hD (by rw [← e]; exact hD'))).trans q1⟩

end Go.Proofs.Ytnbjjddfcondlaa

/- The walk over a list of what has been written, within the rounds of a range over a function, and in functions that hold such loops or that yield. -/
namespace Go.Proofs.Ytnbjjddfcondlaa
open Go.RowKit

/-- The fence of a function's activation (none), or of a round of the loop l. -/
def FR (r : Option Nat) : Fence := { Fence.wide with round := r }
def marks (Ds : List Nat) : List Deferred := Ds.map fun D => { target := .collected D, args := #[] }

section
variable {P : Program} {n : Nat} {L : List Value} {ws : List (Nat × Value)} {w : World} {Q : Exit → Act → World → Prop} {r : Option Nat} {m : Nat} {Ds : List Nat}

theorem calls_fr {f : FuncId} {args : Array Value} {R : Ending → World → Prop} (h : Calls P f args w R) : CallsIn (FR r) m P f args w R := (callsIn_wide (n := m)).2 h
theorem semAt_of {ev : Operand → Value} {o : Oper} {nx : Next} {w' : World} (h : (execOp ev o).run P w = .ok nx w') (hd : ∀ d, nx ≠ .defer d) : (o.semAt r ev).run P w = .ok nx w' := by
  rw [Oper.semAt_eq]
  · exact h
  · intro c hc
    simp only [execOp, hc, Sem.run_bind] at h
    cases e : (resolve ev c o.type).run P w with
    | ok d w1 => rw [e] at h; simp [Result.andThen] at h; exact hd _ h.1.symm
    | halt x w1 => rw [e] at h; simp [Result.andThen] at h
theorem StepN.wpI {ev : Operand → Value} {oi : Oper} {N : Value → World → Prop} {a : Act} {K : Act → World → Prop} (h : StepN P ev oi w N) (he : a.eval = ev) (hK : ∀ v w', N v w' → K (a.put oi.dst v) w') : Oper.wpIn (FR r) m P oi a w K Q := by
  refine ⟨fun _ _ => trivial, ?_⟩
  rw [he]
  show oi.uponIn (FR r) m P a K Q ((oi.semAt r ev).run P w)
  rcases h with ⟨v, w', h1, h3⟩ | ⟨w', h1, h3⟩ | ⟨f, args, h1, h2⟩
  · rw [semAt_of h1 (by simp), Oper.uponIn_value]; exact hK v w' h3
  · rw [semAt_of h1 (by simp), Oper.uponIn_skip]; exact hK undef w' h3
  · rw [semAt_of h1 (by simp), Oper.uponIn_enter]
    exact ⟨fun h => by simp [FR, Fence.wide] at h, calls_fr (h2.mono fun e w' ⟨v, he, hn⟩ => by subst he; exact hK v w' hn)⟩
/-- A call of yield. -/
def StepY (P : Program) (m : Nat) (ev : Operand → Value) (oi : Oper) (w : World) (N : Value → World → Prop) : Prop :=
  ∃ l fn tmps assign body, (execOp ev oi).run P w = .ok (.round l fn tmps assign body) w ∧ RoundIn Fence.wide (m - 1) P l fn tmps assign body w fun e w' => ∃ v, e = .returned v ∧ N v w'
theorem StepY.wpI {ev : Operand → Value} {oi : Oper} {N : Value → World → Prop} {a : Act} {K : Act → World → Prop} (h : StepY P m ev oi w N) (he : a.eval = ev) (hK : ∀ v w', N v w' → K (a.put oi.dst v) w') : Oper.wpIn (FR r) m P oi a w K Q := by
  refine ⟨fun _ _ => trivial, ?_⟩
  rw [he]
  show oi.uponIn (FR r) m P a K Q ((oi.semAt r ev).run P w)
  obtain ⟨l, fn, tmps, assign, body, h1, h2⟩ := h
  rw [semAt_of h1 (by simp), Oper.uponIn_round]
  exact ⟨fun h => by simp [FR, Fence.wide] at h, (RoundIn.mono h2 fun e w' ⟨v, he, hn⟩ => by subst he; exact hK v w' hn : RoundIn Fence.wide (m - 1) P l fn tmps assign body w _)⟩
theorem sy_yield {ev : Operand → Value} {oi : Oper} {x : Operand} {ys : Array Operand} {ts : Array TypeId} {l : Nat} {args : Array Value} {N : Value → World → Prop} (hop : oi.op = .call { callee := .value x, args := ys, argTypes := ts }) (hx : ev x = .func (.yield l) #[] #[]) (hy : ys.map ev = args)
    (h : YieldAt Fence.wide (m - 1) P l args w fun e w' => ∃ v, e = .returned v ∧ N v w') : StepY P m ev oi w N := by
  obtain ⟨fn, tmps, assign, body, h1, h2⟩ := h
  refine ⟨l, fn, tmps, assign, body, ?_, h2⟩
  simp only [execOp, hop, resolve, hx, hy, Sem.run_bind]
  simp [Result.andThen, invoke, h1, Deferred.ofValue]

structure ICW (P : Program) (r : Option Nat) (m : Nat) (Ds : List Nat) (c : Code) (Q : Exit → Act → World → Prop) (n : Nat) (L : List Value) (ws : List (Nat × Value)) (w : World) : Prop where
  out : Bd n L ws → c.wpIn (FR r) m P Q ⟨(setAll L ws).toArray, marks Ds⟩ w
structure IQW (Ds : List Nat) (Q : Exit → Act → World → Prop) (e : Exit) (n : Nat) (L : List Value) (ws : List (Nat × Value)) (w : World) : Prop where
  out : Bd n L ws → Q e ⟨(setAll L ws).toArray, marks Ds⟩ w
structure IPL (P : Program) (r : Option Nat) (m : Nat) (Ds : List Nat) (ops rest : List Oper) (Q : Exit → Act → World → Prop) (n : Nat) (L : List Value) (ws : List (Nat × Value)) (w : World) : Prop where
  out : Bd n L ws → wpListIn (FR r) m P ops.toArray Q rest ⟨(setAll L ws).toArray, marks Ds⟩ w

/-- A function's end, with the marks of its loops. -/
def IBody (m : Nat) (P : Program) (fn : Func) (R : Ending → World → Prop) : Exit → Act → World → Prop
  | .normal, a, w => bodyPostM Fence.wide m P fn R .normal a w
  | .ret, a, w => bodyPostM Fence.wide m P fn R .ret a w
  | _, _, _ => False
theorem icalls {f : FuncId} {fn : Func} {c : Code} {av : List Value} {R : Ending → World → Prop} (n : Nat) (ws : List (Nat × Value)) (hf : P.funcs[f]? = some fn) (hb : fn.body = some c) (hn : fn.ntmps = n)
    (he : av ++ List.replicate (n - av.length) undef = setAll (List.replicate n undef) ws) (hl : ws.all (fun p => Nat.blt p.1 n) = true)
    (h : ∀ L m, ICW P none m [] c (IBody m P fn R) n L ws w) : CallsIn Fence.wide m P f av.toArray w R := by
  refine callsIn_of_wp_marks hf hb trivial ?_ rfl
  have e : (av.toArray ++ Array.replicate (fn.ntmps - av.toArray.size) undef : Array Value) = (setAll (List.replicate n undef) ws).toArray := by
    rw [hn, ← he]; simp
  rw [e]
  refine Go.wpIn_mono ((h _ m).out ⟨List.length_replicate, fun p hp => Nat.blt_eq.mp (List.all_eq_true.1 hl p hp)⟩) fun e a' w' q => ?_
  cases e with
  | normal => exact q
  | ret => exact q
  | _ => exact q.elim
theorem icalls_cw {f : FuncId} {fn : Func} {c : Code} {av : List Value} {R : Ending → World → Prop} (n : Nat) (ws : List (Nat × Value)) (hf : P.funcs[f]? = some fn) (hb : fn.body = some c) (hn : fn.ntmps = n)
    (he : av ++ List.replicate (n - av.length) undef = setAll (List.replicate n undef) ws) (hl : ws.all (fun p => Nat.blt p.1 n) = true)
    (h : ∀ L m, ICW P none m [] c (IBody m P fn R) n L ws w) : Calls P f av.toArray w R := (callsIn_wide (n := 0)).1 (icalls n ws hf hb hn he hl h)

theorem icw_seq {x y : Code} (h : ICW P r m Ds x (Exit.then (y.wpIn (FR r) m P Q) Q) n L ws w) : ICW P r m Ds (.seq x y) Q n L ws w := ⟨fun b => wpIn_seq (h.out b)⟩
theorem icw_block {id : Nat} {c : Code} (h : ICW P r m Ds c (Exit.inBlock id Q) n L ws w) : ICW P r m Ds (.block id c) Q n L ws w := ⟨fun b => wpIn_block (h.out b)⟩
theorem icw_skip (h : IQW Ds Q .normal n L ws w) : ICW P r m Ds .skip Q n L ws w := ⟨fun b => wpIn_skip (h.out b)⟩
theorem icw_exit {id : Nat} (h : IQW Ds Q (.exit id) n L ws w) : ICW P r m Ds (.exit id) Q n L ws w := ⟨fun b => wpIn_exit (h.out b)⟩
theorem icw_ret (h : IQW Ds Q .ret n L ws w) : ICW P r m Ds .ret Q n L ws w := ⟨fun b => wpIn_ret (h.out b)⟩
theorem icw_plain {id : Nat} {l : List Oper} (h : IPL P r m Ds l l Q n L ws w) : ICW P r m Ds (.region id l.toArray false) Q n L ws w := ⟨fun b => wpIn_region_lit (h.out b)⟩
theorem icw_t {c : Operand} {x y : Code} (hc : evalW L ws c = .bool true) (h : ICW P r m Ds x Q n L ws w) : ICW P r m Ds (.cond c x y) Q n L ws w := ⟨fun b => wpIn_cond_true (by rw [eval_W b.lt]; exact hc) (h.out b)⟩
theorem icw_f {c : Operand} {x y : Code} (hc : evalW L ws c = .bool false) (h : ICW P r m Ds y Q n L ws w) : ICW P r m Ds (.cond c x y) Q n L ws w := ⟨fun b => wpIn_cond_false (by rw [eval_W b.lt]; exact hc) (h.out b)⟩

theorem iqw_then {y : Code} (h : ICW P r m Ds y Q n L ws w) : IQW Ds (Exit.then (y.wpIn (FR r) m P Q) Q) .normal n L ws w := ⟨h.out⟩
theorem iqw_then_ret {K : Act → World → Prop} (h : IQW Ds Q .ret n L ws w) : IQW Ds (Exit.then K Q) .ret n L ws w := ⟨h.out⟩
theorem iqw_then_exit {K : Act → World → Prop} {id : Nat} (h : IQW Ds Q (.exit id) n L ws w) : IQW Ds (Exit.then K Q) (.exit id) n L ws w := ⟨h.out⟩
theorem iqw_block {id : Nat} (h : IQW Ds Q .normal n L ws w) : IQW Ds (Exit.inBlock id Q) .normal n L ws w := ⟨h.out⟩
theorem iqw_block_ret {id : Nat} (h : IQW Ds Q .ret n L ws w) : IQW Ds (Exit.inBlock id Q) .ret n L ws w := ⟨h.out⟩
theorem iqw_block_out {id : Nat} (h : IQW Ds Q .normal n L ws w) : IQW Ds (Exit.inBlock id Q) (.exit id) n L ws w := ⟨fun b => by
  show (if id = id then _ else _)
  rw [if_pos rfl]; exact h.out b⟩
theorem iqw_block_on {id id' : Nat} (hne : id' ≠ id) (h : IQW Ds Q (.exit id') n L ws w) : IQW Ds (Exit.inBlock id Q) (.exit id') n L ws w := ⟨fun b => by
  show (if id' = id then _ else _)
  rw [if_neg hne]; exact h.out b⟩

theorem ipl_nil {ops : List Oper} (h : IQW Ds Q .normal n L ws w) : IPL P r m Ds ops [] Q n L ws w := ⟨h.out⟩
theorem wantP_specD {ops : List Oper} {o : Oper} {b : Bool} (h : Bd n L ws) (hok : ∀ x ∈ ops, ∀ d, x.dst = some d → d < n) (hw : wantP ops L ws o.guard = b) :
    Region.wanted o (yielded ops.toArray (⟨(setAll L ws).toArray, marks Ds⟩ : Act).tmps) = b := wantP_spec h hok hw
theorem ipl_take {ops rest : List Oper} {o : Oper} {d : Nat} (v : Value) (hdst : o.dst = some d) (hok : dstOk n ops = true) (hd : Nat.blt d n = true) (hw : wantP ops L ws o.guard = true)
    (hr : (execOp (evalW L ws) o).run P w = .ok (.value v) w) (h : IPL P r m Ds ops rest Q n L ((d, v) :: ws) w) : IPL P r m Ds ops (o :: rest) Q n L ws w := ⟨fun b => by
  refine wpListIn_step fun K hK => ?_
  rw [if_pos (wantP_specD b (dstOk_spec hok) hw)]
  refine StepN.wpI (N := fun v' w' => v' = v ∧ w' = w) (.inl ⟨v, w, hr, rfl, rfl⟩) (eval_W b.lt _) fun v' w' ⟨e1, e2⟩ => hK _ _ ?_
  subst e1 e2
  rw [put_W, hdst]; exact h.out (b.put hd)⟩
theorem ipl_skip {ops rest : List Oper} {o : Oper} {d : Nat} (hdst : o.dst = some d) (hok : dstOk n ops = true) (hd : Nat.blt d n = true) (hw : wantP ops L ws o.guard = false)
    (h : IPL P r m Ds ops rest Q n L ((d, undef) :: ws) w) : IPL P r m Ds ops (o :: rest) Q n L ws w := ⟨fun b => by
  refine wpListIn_step fun K hK => ?_
  rw [if_neg (by rw [wantP_specD b (dstOk_spec hok) hw]; simp)]
  refine ⟨fun _ _ => trivial, hK _ _ ?_⟩
  rw [put_W, hdst]; exact h.out (b.put hd)⟩
theorem ipl_step {ops rest : List Oper} {o : Oper} {d : Nat} (hdst : o.dst = some d) (hok : dstOk n ops = true) (hd : Nat.blt d n = true) (hw : wantP ops L ws o.guard = true)
    (h : StepN P (evalW L ws) o w fun v w' => IPL P r m Ds ops rest Q n L ((d, v) :: ws) w') : IPL P r m Ds ops (o :: rest) Q n L ws w := ⟨fun b => by
  refine wpListIn_step fun K hK => ?_
  rw [if_pos (wantP_specD b (dstOk_spec hok) hw)]
  exact h.wpI (eval_W b.lt _) fun v w' hn => hK _ _ (by rw [put_W, hdst]; exact hn.out (b.put hd))⟩
theorem ipl_yield {ops rest : List Oper} {o : Oper} {d : Nat} (hdst : o.dst = some d) (hok : dstOk n ops = true) (hd : Nat.blt d n = true) (hw : wantP ops L ws o.guard = true)
    (h : StepY P m (evalW L ws) o w fun v w' => IPL P r m Ds ops rest Q n L ((d, v) :: ws) w') : IPL P r m Ds ops (o :: rest) Q n L ws w := ⟨fun b => by
  refine wpListIn_step fun K hK => ?_
  rw [if_pos (wantP_specD b (dstOk_spec hok) hw)]
  exact h.wpI (eval_W b.lt _) fun v w' hn => hK _ _ (by rw [put_W, hdst]; exact hn.out (b.put hd))⟩
theorem ipl_put {ops rest : List Oper} {o : Oper} (hdst : o.dst = none) (hok : dstOk n ops = true) (hw : wantP ops L ws o.guard = true)
    (h : StepN P (evalW L ws) o w fun _ w' => IPL P r m Ds ops rest Q n L ws w') : IPL P r m Ds ops (o :: rest) Q n L ws w := ⟨fun b => by
  refine wpListIn_step fun K hK => ?_
  rw [if_pos (wantP_specD b (dstOk_spec hok) hw)]
  exact h.wpI (eval_W b.lt _) fun v w' hn => hK _ _ (by rw [put_W, hdst]; exact hn.out b)⟩
theorem icw_clean {c : Code} (ks : List Nat) {ws' : List (Nat × Value)} (hp : pickW ws ks = some ws') (h : ∀ L', ICW P r m Ds c Q n L' ws' w) : ICW P r m Ds c Q n L ws w := ⟨fun b => by
  have := (h (setAll L ws)).out (pick_bd hp b)
  rwa [pick_set hp] at this⟩
def ILoopK (n : Nat) (Ds : List Nat) (Inv : List (Nat × Value) → World → Nat → Prop) (m : Nat) : Act → World → Prop := fun a w => ∃ L' ws' m', m' < m ∧ Bd n L' ws' ∧ a = ⟨(setAll L' ws').toArray, marks Ds⟩ ∧ Inv ws' w m'
open Classical in
theorem icw_loop {c : Code} (ks : List Nat) (Inv : List (Nat × Value) → World → Nat → Prop) {ws0 : List (Nat × Value)} (hp : pickW ws ks = some ws0) (m0 : Nat) (h0 : Inv ws0 w m0)
    (round : ∀ k L' ws' w', Inv ws' w' k → ICW P r m Ds c (Exit.then (ILoopK n Ds Inv k) Q) n L' ws' w') : ICW P r m Ds (.loop c) Q n L ws w := ⟨fun b => by
  let J : Nat → Act → World → Prop := fun k a w => ∃ L' ws', Bd n L' ws' ∧ a = ⟨(setAll L' ws').toArray, marks Ds⟩ ∧ Inv ws' w k
  let μ : Act → World → Nat := fun a w => if h : ∃ k, J k a w then Classical.choose (least h) else 0
  have hμ : ∀ a w (h : ∃ k, J k a w), J (μ a w) a w ∧ ∀ k, J k a w → μ a w ≤ k := fun a w h => by
    have e : μ a w = Classical.choose (least h) := dif_pos h
    rw [e]; exact Classical.choose_spec (least h)
  refine wpIn_loop (fun a w => ∃ k, J k a w) μ ⟨m0, setAll L ws, ws0, pick_bd hp b, by rw [pick_set hp], h0⟩ fun a w h => ?_
  obtain ⟨⟨L', ws', hb, ha, hI⟩, _⟩ := hμ a w h
  have := (round (μ a w) L' ws' w hI).out hb
  rw [← ha] at this
  refine Go.wpIn_mono this (fun e a' w' q => ?_)
  cases e with
  | normal =>
    obtain ⟨L2, ws2, m2, hlt, hb2, ha2, hI2⟩ := q
    have hJ : J m2 a' w' := ⟨L2, ws2, hb2, ha2, hI2⟩
    exact ⟨⟨m2, hJ⟩, Nat.lt_of_le_of_lt ((hμ a' w' ⟨m2, hJ⟩).2 m2 hJ) hlt⟩
  | _ => exact q⟩
theorem iqw_round {Inv : List (Nat × Value) → World → Nat → Prop} {k : Nat} (ks : List Nat) {ws' : List (Nat × Value)} (hp : pickW ws ks = some ws') (m' : Nat) (hlt : m' < k) (h : Inv ws' w m') : IQW Ds (Exit.then (ILoopK n Ds Inv k) Q) .normal n L ws w := ⟨fun b =>
  ⟨setAll L ws, ws', m', hlt, pick_bd hp b, by rw [pick_set hp], h⟩⟩
end

/-! The loops' own book-keeping turns objects that are no cells, at n₀ or behind it. -/
structure Mv (n₀ : Nat) (A B : World) : Prop where
  os : B.os = A.os
  tape : B.tape = A.tape
  output : B.output = A.output
  size : A.heap.size ≤ B.heap.size
  cells : ∀ (k : Nat) (o : Obj), A.heap[k]? = some o → o.isCells = true → B.heap[k]? = some o
  below : ∀ (k : Nat), k < n₀ → k < A.heap.size → B.heap[k]? = A.heap[k]?
theorem Mv.refl (n₀ : Nat) (A : World) : Mv n₀ A A := ⟨rfl, rfl, rfl, Nat.le_refl _, fun _ _ h _ => h, fun _ _ _ => rfl⟩
theorem Mv.trans {n₀ : Nat} {A B C : World} (h : Mv n₀ A B) (k : Mv n₀ B C) : Mv n₀ A C :=
  ⟨k.os.trans h.os, k.tape.trans h.tape, k.output.trans h.output, Nat.le_trans h.size k.size, fun i o hi ho => k.cells i o (h.cells i o hi ho) ho, fun i hi hl => (k.below i hi (Nat.lt_of_lt_of_le hl h.size)).trans (h.below i hi hl)⟩
theorem Mv.of_ext {n₀ : Nat} {A B : World} (h : Ext A B) : Mv n₀ A B :=
  ⟨h.os, h.tape, h.output, h.size, fun k _ hk _ => (h.block k (Array.getElem?_eq_some_iff.1 hk).1).trans hk, fun k _ hk => h.block k hk⟩
theorem Mv.putObj {n₀ : Nat} {A : World} {k : Nat} {o : Obj} (o' : Obj) (hk : n₀ ≤ k) (ho : A.heap[k]? = some o) (hc : o.isCells = false) : Mv n₀ A (A.putObj k o') :=
  ⟨rfl, rfl, rfl, by simp, fun j u hj hu => (World.putObj_heap_other (fun e => by subst e; rw [ho] at hj; cases hj; rw [hc] at hu; cases hu)).trans hj, fun j hj _ => World.putObj_heap_other (by omega)⟩
theorem Mv.ext {n₀ : Nat} {A B U : World} (h : Mv n₀ A B) (hU : Ext U A) (hn : U.heap.size ≤ n₀) : Ext U B :=
  ⟨h.os.trans hU.os, h.tape.trans hU.tape, h.output.trans hU.output, Nat.le_trans hU.size h.size, fun k hk => (h.below k (Nat.lt_of_lt_of_le hk hn) (Nat.lt_of_lt_of_le hk hU.size)).trans (hU.block k hk)⟩
theorem Mv.cell {n₀ : Nat} {A B : World} (h : Mv n₀ A B) {p : Addr} {v : Value} (hv : A.cell? p = some v) : B.cell? p = some v := by
  obtain ⟨o, ho, hc⟩ := cells_of_cell hv
  exact (World.cell?_of_block ((h.cells _ o ho hc).trans ho.symm)).trans hv
theorem Mv.froz {n₀ : Nat} {A B : World} (h : Mv n₀ A B) {p : Addr} {v : Value} (hv : A.cell? p = some v) : B.frozen? p = A.frozen? p := by
  obtain ⟨o, ho, hc⟩ := cells_of_cell hv
  exact World.frozen?_of_block ((h.cells _ o ho hc).trans ho.symm)
theorem Mv.box {n₀ : Nat} {A B : World} (h : Mv n₀ A B) {b o : Nat} {v : Value} (hv : BoxAt A b o v) : BoxAt B b o v := ⟨h.cell hv.1, by rw [h.froz hv.1]; exact hv.2⟩
theorem Mv.va {n₀ : Nat} {A B : World} (h : Mv n₀ A B) {b o : Nat} {l : List Int} (hv : VA A b o l) : VA B b o l := ⟨fun i hi => h.cell (hv.1 i hi), hv.2⟩
theorem Mv.rows {n₀ : Nat} {A B : World} (h : Mv n₀ A B) {b : Nat} {l : List Int} (hv : RowsAt A b l) : RowsAt B b l := ⟨hv.1, fun i hi => h.cell (hv.cell hi), fun i hi => by rw [h.froz (hv.cell hi)]; exact hv.free hi⟩
theorem Mv.ints {n₀ : Nat} {A B : World} (h : Mv n₀ A B) {a : Option Addr} {l : List Int} (hv : IntsAt A a l) : IntsAt B a l := by
  rcases hv with q | ⟨b, off, rfl, q⟩
  · exact .inl q
  · exact .inr ⟨b, off, rfl, fun i hi => h.cell (q i hi)⟩
theorem Mv.own {α : Type} {R : Rep α} {n₀ n₁ : Nat} {e : TypeId} {size : Nat} {v : Value} {A B : World} {l : List α} (h : Mv n₁ A B) (ho : OwnL R n₀ e size v A l) : OwnL R n₀ e size v B l := by
  obtain ⟨cs, h1, h2, h3, h4⟩ := ho
  refine ⟨cs, h1, h2, ⟨h3.1, ?_⟩, fun j x c hx hc => ?_⟩
  · rcases h3.2 with q | ⟨g, cap, cur, q, hb, hcur, rest⟩
    · exact .inl q
    · exact .inr ⟨g, cap, cur, q, hb, h.cells _ _ hcur rfl, rest⟩
  · obtain ⟨F, q1, q2⟩ := h4 j x c hx hc
    exact ⟨F, R.keep q1 (fun b _ o u hu => h.cell hu), q2⟩

/-! What a round keeps. -/
/-- Cells keep their content, but for the blocks of X. -/
structure KeptX (X : Nat → Prop) (A B : World) : Prop where
  size : A.heap.size ≤ B.heap.size
  cells : ∀ (k : Nat) (o : Obj), A.heap[k]? = some o → o.isCells = true → ¬ X k → B.heap[k]? = some o
theorem KeptX.trans {X : Nat → Prop} {A B C : World} (h : KeptX X A B) (k : KeptX X B C) : KeptX X A C := ⟨Nat.le_trans h.size k.size, fun i o hi ho hx => k.cells i o (h.cells i o hi ho hx) ho hx⟩
theorem KeptX.of_mv {X : Nat → Prop} {n₀ : Nat} {A B : World} (h : Mv n₀ A B) : KeptX X A B := ⟨h.size, fun k o hk ho _ => h.cells k o hk ho⟩
theorem KeptX.cell {X : Nat → Prop} {A B : World} (h : KeptX X A B) {b o : Nat} {v : Value} (hx : ¬ X b) (hv : A.cell? ⟨b, o, none⟩ = some v) : B.cell? ⟨b, o, none⟩ = some v := by
  obtain ⟨u, hu, hc⟩ := cells_of_cell hv
  exact (World.cell?_of_block ((h.cells _ u hu hc hx).trans hu.symm)).trans hv
theorem KeptX.box {X : Nat → Prop} {A B : World} (h : KeptX X A B) {b o : Nat} {v : Value} (hx : ¬ X b) (hv : BoxAt A b o v) : BoxAt B b o v := by
  obtain ⟨u, hu, hc⟩ := cells_of_cell hv.1
  exact ⟨h.cell hx hv.1, (World.frozen?_of_block ((h.cells _ u hu hc hx).trans hu.symm)).trans hv.2⟩
structure RK (n₀ : Nat) (X : Nat → Prop) (A B : World) : Prop where
  kept : KeptX X A B
  oth : KeepsFrom n₀ A B
theorem RK.refl (n₀ : Nat) (X : Nat → Prop) (A : World) : RK n₀ X A A := ⟨⟨Nat.le_refl _, fun _ _ h _ _ => h⟩, KeepsFrom.refl _ _⟩
theorem RK.ext {n₀ : Nat} {X : Nat → Prop} {A B C : World} (h : RK n₀ X A B) (e : Ext B C) : RK n₀ X A C :=
  ⟨h.kept.trans (KeptX.of_mv (n₀ := 0) (Mv.of_ext e)), h.oth.trans (e.others.from _)⟩
theorem RK.turn {n₀ : Nat} {X : Nat → Prop} {A B C : World} (h : RK n₀ X A B) {O : Nat} (t : Turns O B C) (hO : X O ∨ A.heap.size ≤ O) : RK n₀ X A C := by
  refine ⟨⟨by rw [t.size]; exact h.kept.size, fun k o hk ho hx => ?_⟩, ⟨by rw [t.size]; exact h.oth.size, fun k o hk hi ho => ?_⟩⟩
  · have hne : k ≠ O := fun e => by
      subst e
      rcases hO with q | q
      · exact hx q
      · have := (Array.getElem?_eq_some_iff.1 hk).1; omega
    rw [t.heap' k hne]; exact h.kept.cells k o hk ho hx
  · have h2 := h.oth.same k o hk hi ho
    by_cases e : k = O
    · subst e; exact t.oth' o h2 ho
    · rw [t.heap' k e]; exact h2

/-! A range over a function that yields N times, in order. -/
def SeqN (P : Program) (g : Nat) (lb : Array Value) (N : Nat) (encs : Nat → List Value) (Φ : Nat → World → Prop) (X : Nat → Prop) (w : World) : Prop :=
  ∀ (l : Nat) (J Jx : Nat → World → Prop) (W : World), Ext w W → (∀ i A B, J i A → Ext A B → J i B) → (∀ i A B, Jx i A → Ext A B → Jx i B) →
    (∀ i W1 m, i < N → J i W1 → Φ i W1 → YieldAt Fence.wide m P l (encs i).toArray W1 fun e W' => (e = .returned (.bool true) ∧ J (i + 1) W' ∧ KeptX X W1 W') ∨ (e = .returned (.bool false) ∧ Jx i W' ∧ KeptX X W1 W')) →
    J 0 W → ∀ n, CallsIn Fence.wide n P g (#[.func (.yield l) #[] #[]] ++ lb) W fun e W' => (∃ v, e = .returned v) ∧ (J N W' ∨ ∃ i, i < N ∧ Jx i W')
/-- How a round may be left. -/
def RndQ (n₀ : Nat) (X : Nat → Prop) (Inv : Nat → World → Prop) (Ix : Code → Nat → World → Prop) (i : Nat) (W : World) : Exit → Act → World → Prop
  | .normal, _, W' => RK n₀ X W W' ∧ Inv (i + 1) W'
  | .ret, _, W' => RK n₀ X W W' ∧ Ix .ret i W'
  | .exit id, _, W' => RK n₀ X W W' ∧ Ix (.exit id) i W'
  | _, _, _ => False
/-- How the assignments to the loop's variables end. -/
def AsgQ (P : Program) (l k n₀ : Nat) (X : Nat → Prop) (body : Code) (Inv : Nat → World → Prop) (Ix : Code → Nat → World → Prop) (i : Nat) (W : World) : Exit → Act → World → Prop
  | .normal, a, w1 => RK n₀ X W w1 ∧ ∀ w2, Mv n₀ w1 w2 → body.wpIn (FR (some l)) k P (RndQ n₀ X Inv Ix i w2) a w2
  | _, _, _ => False
def zipW : List Nat → List Value → List (Nat × Value) → List (Nat × Value)
  | p :: ps, v :: vs, ws => zipW ps vs ((p, v) :: ws)
  | _, _, ws => ws
theorem zip_setL (L : List Value) : ∀ (ps : List Nat) (vs : List Value) (ws : List (Nat × Value)), (ps.zip vs).foldl (fun t (p, v) => t.setIfInBounds p v) (setAll L ws).toArray = (setAll L (zipW ps vs ws)).toArray
  | p :: ps, v :: vs, ws => by
    have ih := zip_setL L ps vs ((p, v) :: ws)
    rw [zipW, ← ih, List.zip_cons_cons, List.foldl_cons]
    simp [setAll]
  | [], vs, ws => by simp [zipW]
  | p :: ps, [], ws => by simp [zipW]
theorem zip_set (L : List Value) (ps : List Nat) (vs : List Value) (ws : List (Nat × Value)) : (ps.toArray.zip vs.toArray).foldl (fun t (p, v) => t.setIfInBounds p v) (setAll L ws).toArray = (setAll L (zipW ps vs ws)).toArray := by
  rw [← zip_setL, List.zip_toArray]
  exact List.foldl_toArray _ _ _
theorem zip_bd {n : Nat} {L : List Value} : ∀ {ps : List Nat} {vs : List Value} {ws : List (Nat × Value)}, Bd n L ws → ps.all (fun p => Nat.blt p n) = true → Bd n L (zipW ps vs ws)
  | p :: ps, v :: vs, ws, b, h => by
    simp only [List.all_cons, Bool.and_eq_true] at h
    exact zip_bd (ps := ps) (vs := vs) (b.put h.1) h.2
  | [], vs, ws, b, _ => b
  | p :: ps, [], ws, b, _ => b
section
variable {P : Program} {n : Nat} {L : List Value} {ws : List (Nat × Value)} {w : World} {Q : Exit → Act → World → Prop} {r : Option Nat} {m : Nat} {Ds : List Nat}
theorem icw_range {g : Operand} {ps : List Nat} {assign body : Code} {gf : Nat} {lb : Array Value} (hg : evalW L ws g = .func (.func gf) #[] lb) (eg : ∀ args w, (callFunc gf args).run P w = .ok (.enter gf args) w)
    {N : Nat} {encs : Nat → List Value} {Φ : Nat → World → Prop} {X : Nat → Prop} {w0 : World} (hseq : SeqN P gf lb N encs Φ X w0) (hb0 : Ext w0 w) (hps : ∀ i, (encs i).length = ps.length) (hpn : ps.all (fun p => Nat.blt p n) = true)
    (Inv : Nat → World → Prop) (Ix : Code → Nat → World → Prop) (hI : ∀ i A B, Inv i A → Mv w.heap.size A B → Inv i B) (hIx : ∀ c i A B, Ix c i A → Mv w.heap.size A B → Ix c i B) (h0 : Inv 0 w)
    (round : ∀ l k i W, i < N → Inv i W → Φ i W → ICW P (some l) k [] assign (AsgQ P l k w.heap.size X body Inv Ix i W) n L (zipW ps (encs i) ws) W)
    (done : ∀ D W, w.heap.size ≤ D → D < W.heap.size → Inv N W → W.heap[D]? = some (.deferred (some [])) → IQW (D :: Ds) Q .normal n L ws W)
    (stop : ∀ c D i W, w.heap.size ≤ D → D < W.heap.size → i < N → Ix c i W → W.heap[D]? = some (.deferred (some [])) → ICW P none m (D :: Ds) c Q n L ws W) :
    ICW P none m Ds (.rangeFunc g ps.toArray assign body) Q n L ws w := ⟨fun b => by
  have hgv : Act.eval ⟨(setAll L ws).toArray, marks Ds⟩ g = .func (.func gf) #[] lb := by rw [eval_W b.lt]; exact hg
  show (Code.rangeFunc g ps.toArray assign body).wpIn Fence.wide m P Q ⟨(setAll L ws).toArray, marks Ds⟩ w
  refine wpIn_rangeFunc fun fn hfn => ?_
  let R := recOf ⟨(setAll L ws).toArray, marks Ds⟩ ps.toArray assign body fn w.heap.size
  let W1 := (w.alloc (.deferred (some []))).alloc (.loop (R .ready none))
  have sz : W1.heap.size = w.heap.size + 2 := by simp [W1]
  have hL1 : W1.heap[w.heap.size + 1]? = some (.loop (R .ready none)) := by
    have := World.alloc_heap_new (w.alloc (.deferred (some []))) (.loop (R .ready none))
    rwa [World.size_alloc] at this
  have hK1 : W1.heap[w.heap.size]? = some (.deferred (some [])) := (Below.heap_alloc _ _ _ (by simp)).trans (World.alloc_heap_new w _)
  have hE1 : Ext w W1 := ((Ext.refl w).alloc _).alloc _
  refine ⟨w.heap.size + 1, [{ target := .collected w.heap.size, args := #[] }], W1, { target := .fn (.func gf) lb, args := #[.func (.yield (w.heap.size + 1)) #[] #[]] }, W1, gf, #[.func (.yield (w.heap.size + 1)) #[] #[]] ++ lb, W1,
    run_enterLoop_outer _ _ _ _ _, ?_, fun _ _ => trivial, by simp [invoke, go_sem, eg], fun h => by simp [Fence.wide] at h, ?_⟩
  · have hgv' : Act.eval ⟨(setAll L ws).toArray, marks Ds⟩ g = .func (.func gf) #[] lb := hgv
    simp only [resolve, hgv']; simp [go_sem]
  refine (hseq (w.heap.size + 1)
    (fun i W => Inv i W ∧ W.heap[w.heap.size + 1]? = some (.loop (R .ready none)) ∧ W.heap[w.heap.size]? = some (.deferred (some [])))
    (fun i W => ∃ c, Ix c i W ∧ W.heap[w.heap.size + 1]? = some (.loop (R .done (some c))) ∧ W.heap[w.heap.size]? = some (.deferred (some [])))
    W1 (hb0.trans hE1)
    (fun i A B hs e => ⟨hI i A B hs.1 (Mv.of_ext e), (e.block _ (Array.getElem?_eq_some_iff.1 hs.2.1).1).trans hs.2.1, (e.block _ (Array.getElem?_eq_some_iff.1 hs.2.2).1).trans hs.2.2⟩)
    (fun i A B ⟨c, h1, h2, h3⟩ e => ⟨c, hIx c i A B h1 (Mv.of_ext e), (e.block _ (Array.getElem?_eq_some_iff.1 h2).1).trans h2, (e.block _ (Array.getElem?_eq_some_iff.1 h3).1).trans h3⟩)
    ?_ ⟨hI 0 w W1 h0 (Mv.of_ext hE1), hL1, hK1⟩ _).mono ?_
  · rintro i W k hi ⟨hInv, hl, hk⟩ hx
    have hlt := (Array.getElem?_eq_some_iff.1 hl).1
    have hsz : (encs i).toArray.size = ps.toArray.size := by simp [hps i]
    refine ⟨fn, _, assign, body, run_yield (P := P) (args := (encs i).toArray) hl hsz, roundIn_of_wpIn (F := Fence.wide) hfn ?_⟩
    have hround := (round (w.heap.size + 1) k i W hi hInv hx).out (zip_bd b hpn)
    have e0 : (⟨(setAll L (zipW ps (encs i) ws)).toArray, marks []⟩ : Act) = { tmps := (ps.toArray.zip (encs i).toArray).foldl (fun t (p, v) => t.setIfInBounds p v) (setAll L ws).toArray, defers := [] } := by rw [zip_set]; rfl
    rw [e0] at hround
    refine Go.wpIn_mono hround fun e a1 w1 hp => ?_
    cases e with
    | normal =>
      obtain ⟨hk1, hbody⟩ := hp
      have hl1 := hk1.oth.same _ _ (by omega) hl rfl
      have hkk := hk1.oth.same _ _ (Nat.le_refl _) hk rfl
      have hlt1 := (Array.getElem?_eq_some_iff.1 hl1).1
      refine ⟨_, run_beginRound hl1 rfl, ?_⟩
      let W2 := w1.putObj (w.heap.size + 1) (.loop (R .busy none))
      have hm2 : Mv w.heap.size w1 W2 := Mv.putObj _ (by omega) hl1 rfl
      have hl2 : W2.heap[w.heap.size + 1]? = some (.loop (R .busy none)) := World.putObj_heap_same hlt1
      have hk2 : W2.heap[w.heap.size]? = some (.deferred (some [])) := (World.putObj_heap_other (by omega)).trans hkk
      have leave : ∀ (jump : Option Code) (W3 : World), RK w.heap.size X W2 W3 →
          W3.heap[w.heap.size + 1]? = some (.loop (R .busy none)) ∧
          (Instr.endRound (w.heap.size + 1) jump).run P W3 = .ok (.bool jump.isNone) (W3.putObj (w.heap.size + 1) (.loop (R (if jump.isNone then .ready else .done) jump))) ∧
          (W3.putObj (w.heap.size + 1) (.loop (R (if jump.isNone then .ready else .done) jump))).heap[w.heap.size + 1]? = some (.loop (R (if jump.isNone then .ready else .done) jump)) ∧
          (W3.putObj (w.heap.size + 1) (.loop (R (if jump.isNone then .ready else .done) jump))).heap[w.heap.size]? = some (.deferred (some [])) ∧
          Mv w.heap.size W3 (W3.putObj (w.heap.size + 1) (.loop (R (if jump.isNone then .ready else .done) jump))) ∧ KeptX X W (W3.putObj (w.heap.size + 1) (.loop (R (if jump.isNone then .ready else .done) jump))) := fun jump W3 h3 => by
        have hl3 := h3.oth.same _ _ (by omega) hl2 rfl
        have hm3 : Mv w.heap.size W3 (W3.putObj (w.heap.size + 1) (.loop (R (if jump.isNone then .ready else .done) jump))) := Mv.putObj _ (by omega) hl3 rfl
        exact ⟨hl3, run_endRound (P := P) jump hl3, World.putObj_heap_same (Array.getElem?_eq_some_iff.1 hl3).1, (World.putObj_heap_other (by omega)).trans (h3.oth.same _ _ (Nat.le_refl _) hk2 rfl), hm3, ((hk1.kept.trans (KeptX.of_mv hm2)).trans h3.kept).trans (KeptX.of_mv hm3)⟩
      refine Go.wpIn_mono (hbody W2 hm2) fun e a3 W3 hp => ?_
      cases e with
      | normal =>
        obtain ⟨h3, hi3⟩ := hp
        obtain ⟨hl3, hr, q1, q2, q3, q4⟩ := leave none W3 h3
        exact ⟨_, _, hr, .inl ⟨rfl, ⟨hI _ _ _ hi3 q3, q1, q2⟩, q4⟩⟩
      | ret =>
        obtain ⟨h3, hi3⟩ := hp
        obtain ⟨hl3, hr, q1, q2, q3, q4⟩ := leave (some .ret) W3 h3
        exact ⟨_, _, hr, .inr ⟨rfl, ⟨_, hIx _ _ _ _ hi3 q3, q1, q2⟩, q4⟩⟩
      | exit id =>
        obtain ⟨h3, hi3⟩ := hp
        obtain ⟨hl3, hr, q1, q2, q3, q4⟩ := leave (some (.exit id)) W3 h3
        exact ⟨_, _, hr, .inr ⟨rfl, ⟨_, hIx _ _ _ _ hi3 q3, q1, q2⟩, q4⟩⟩
      | goto _ => exact hp.elim
      | panic _ => exact hp.elim
      | outgrown => exact hp.elim
    | exit _ => exact hp.elim
    | ret => exact hp.elim
    | goto _ => exact hp.elim
    | panic _ => exact hp.elim
    | outgrown => exact hp.elim
  · rintro e W2 ⟨⟨v, rfl⟩, (⟨hi, hl, hk⟩ | ⟨i, hiN, c, hi, hl, hk⟩)⟩
    · exact ⟨none, _, run_endLoop (P := P) hl (by simp [R, recOf]), (done w.heap.size _ (Nat.le_refl _) (by have := (Array.getElem?_eq_some_iff.1 hk).1; simpa using this) (hI _ _ _ hi (Mv.putObj _ (by omega) hl rfl)) ((World.putObj_heap_other (by omega)).trans hk)).out b⟩
    · exact ⟨some c, _, run_endLoop (P := P) hl (by simp [R, recOf]), (stop c w.heap.size i _ (Nat.le_refl _) (by have := (Array.getElem?_eq_some_iff.1 hk).1; simpa using this) hiN (hIx _ _ _ _ hi (Mv.putObj _ (by omega) hl rfl)) ((World.putObj_heap_other (by omega)).trans hk)).out b⟩⟩
theorem iqw_asg {l k n₀ i : Nat} {X : Nat → Prop} {body : Code} {Inv : Nat → World → Prop} {Ix : Code → Nat → World → Prop} {W : World} (hk : RK n₀ X W w) (h : ∀ W2, Mv n₀ w W2 → ICW P (some l) k [] body (RndQ n₀ X Inv Ix i W2) n L ws W2) : IQW [] (AsgQ P l k n₀ X body Inv Ix i W) .normal n L ws w :=
  ⟨fun b => ⟨hk, fun w2 hm => (h w2 hm).out b⟩⟩
theorem iqw_next {n₀ i : Nat} {X : Nat → Prop} {Inv : Nat → World → Prop} {Ix : Code → Nat → World → Prop} {W : World} (hk : RK n₀ X W w) (h : Inv (i + 1) w) : IQW Ds (RndQ n₀ X Inv Ix i W) .normal n L ws w := ⟨fun _ => ⟨hk, h⟩⟩
theorem iqw_brk_ret {n₀ i : Nat} {X : Nat → Prop} {Inv : Nat → World → Prop} {Ix : Code → Nat → World → Prop} {W : World} (hk : RK n₀ X W w) (h : Ix .ret i w) : IQW Ds (RndQ n₀ X Inv Ix i W) .ret n L ws w := ⟨fun _ => ⟨hk, h⟩⟩
theorem iqw_brk {n₀ i id : Nat} {X : Nat → Prop} {Inv : Nat → World → Prop} {Ix : Code → Nat → World → Prop} {W : World} (hk : RK n₀ X W w) (h : Ix (.exit id) i w) : IQW Ds (RndQ n₀ X Inv Ix i W) (.exit id) n L ws w := ⟨fun _ => ⟨hk, h⟩⟩
theorem ileave {fn : Func} {R : Ending → World → Prop} {rs : List ResultVar} (n₀ : Nat) (vs : List Value) (hf : fn.results = rs.toArray) (b : Bd n L ws) (hD : ∀ D ∈ Ds, n₀ ≤ D ∧ w.heap[D]? = some (.deferred (some []))) (hn : Ds.Nodup)
    (h : ∀ W, Mv n₀ w W → ResV P (evalW L ws) W rs vs ∧ R (.returned (resOf vs)) W) : LeavesInM Fence.wide m P fn (setAll L ws).toArray R (marks Ds) .returning w := by
  refine leaves_marks n₀ (fun W => Mv n₀ w W) (fun D W hD hW hk => hW.trans (Mv.putObj _ hD hk rfl)) (fun W hW => ?_) Ds w hn hD (Mv.refl _ _)
  obtain ⟨h1, h2⟩ := h W hW
  exact ⟨_, res_run (a := ⟨(setAll L ws).toArray, marks Ds⟩) hf (by rw [eval_W b.lt]; exact h1), h2⟩
theorem iqw_ret {fn : Func} {R : Ending → World → Prop} {rs : List ResultVar} (n₀ : Nat) (vs : List Value) (hf : fn.results = rs.toArray) (hD : ∀ D ∈ Ds, n₀ ≤ D ∧ w.heap[D]? = some (.deferred (some []))) (hn : Ds.Nodup)
    (h : ∀ W, Mv n₀ w W → ResV P (evalW L ws) W rs vs ∧ R (.returned (resOf vs)) W) : IQW Ds (IBody m P fn R) .ret n L ws w := ⟨fun b => ileave n₀ vs hf b hD hn h⟩
end
/-! Regions that draw their order, within a round. -/
section
variable {P : Program} {ops : Array Oper} {Q : Exit → Act → World → Prop} {S : World → Prop} {r : Option Nat} {m : Nat}
def AnyJ (P : Program) (r : Option Nat) (m : Nat) (ops : Array Oper) (Q : Exit → Act → World → Prop) (S : World → Prop) : Nat → Array Bool → Act → World → Prop
  | 0, listed, a, w => Region.ready .any ops listed = [] ∧ Q .normal a w
  | fuel + 1, listed, a, w => (Region.ready .any ops listed = [] → Q .normal a w) ∧ ∀ i ∈ Region.ready .any ops listed, wpOpIn (FR r) m P ops Q i (fun a' w' => S w' ∧ AnyJ P r m ops Q S fuel (listed.setIfInBounds i true) a' w') a w
theorem anyJ_sound : ∀ (fuel : Nat) (listed : Array Bool) (a : Act) (w : World), AnyJ P r m ops Q S fuel listed a w → wpAnyIn (FR r) m P .any ops Q fuel listed a w
  | 0, _, _, _, h => h
  | fuel + 1, _, _, _, h => ⟨h.1, fun i hi => wpOpIn_mono (fun a w q => anyJ_sound fuel _ a w q.2) (h.2 i hi)⟩
/-- An operation that yields v wherever S holds, and writes nothing. -/
def PureH (P : Program) (ops : Array Oper) (S : World → Prop) (o : Oper) (v : Value) (a : Act) : Prop :=
  (Region.wanted o (yielded ops a.tmps) = true ∧ ∀ w, S w → (execOp a.eval o).run P w = .ok (.value v) w) ∨ (Region.wanted o (yielded ops a.tmps) = false ∧ v = undef)
theorem PureH.same {o : Oper} {v : Value} {a a' : Act} (h : PureH P ops S o v a) (he : execOp a'.eval o = execOp a.eval o) (hw : Region.wanted o (yielded ops a'.tmps) = Region.wanted o (yielded ops a.tmps)) : PureH P ops S o v a' := by
  unfold PureH at *
  rw [hw, he]; exact h
theorem PureH.op {i : Nat} {o : Oper} {v : Value} {a : Act} (hi : ops[i]? = some o) (h : PureH P ops S o v a) {K : Act → World → Prop} {w : World} (hS : S w) (hk : K (a.put o.dst v) w) : wpOpIn (FR r) m P ops Q i K a w := by
  unfold wpOpIn
  simp only [hi]
  rcases h with ⟨hw, hv⟩ | ⟨hw, rfl⟩
  · rw [if_pos hw]
    refine ⟨fun _ _ => trivial, ?_⟩
    show o.uponIn (FR r) m P a K Q ((o.semAt r a.eval).run P w)
    rw [semAt_of (hv w hS) (by simp), Oper.uponIn_value]; exact hk
  · rw [if_neg (by rw [hw]; simp)]
    exact ⟨fun _ _ => trivial, hk⟩
theorem opJ_put {j : Nat} {oi oj : Oper} {v : Value} (hj : ops[j]? = some oj) (hap : oi.apart ops oj = true) (hsi : ∀ cs b, oi.op ≠ .select cs b) (hsj : ∀ cs b, oj.op ≠ .select cs b) (hnd : ∀ c, oj.op ≠ .defer c)
    (hQ : ∀ c a w, Q (.panic c) (a.put oi.dst v) w → Q (.panic c) a w) {K : Act → World → Prop} {a : Act} {w : World} (hy : PureH P ops S oi v a) (h : wpOpIn (FR r) m P ops Q j K (a.put oi.dst v) w) :
    wpOpIn (FR r) m P ops Q j (fun a' w' => PureH P ops S oi v a' ∧ K (a'.put oi.dst v) w') a w := by
  obtain ⟨h1, h2, h3⟩ := Oper.apart_spec hap
  have keep : ∀ (a : Act) (u : Value), PureH P ops S oi v a → PureH P ops S oi v (a.put oj.dst u) := fun a u hy => hy.same (execOp_put oi hsi a oj.dst u h3) (wanted_put oi a oj.dst u h3)
  unfold wpOpIn at *
  simp only [hj] at *
  rw [wanted_put oj a oi.dst v h1] at h
  split
  · rename_i hw
    simp only [hw, if_true] at h
    refine ⟨fun _ _ => trivial, ?_⟩
    have h9 := h.2
    rw [Oper.semAt_eq _ _ _ hnd, execOp_put oj hsj a oi.dst v h1] at h9
    rw [Oper.semAt_eq _ _ _ hnd]
    generalize (execOp a.eval oj).run P w = res at *
    cases res with
    | ok x w' =>
      cases x <;> simp only [Oper.uponIn] at h9 ⊢
      case value u => exact ⟨keep a u hy, by rw [← Act.put_comm a v u h2]; exact h9⟩
      case skip => exact ⟨keep a _ hy, by rw [← Act.put_comm a v undef h2]; exact h9⟩
      case defer d =>
        refine ⟨keep _ _ (hy.same rfl rfl), ?_⟩
        rw [← Act.put_comm _ v undef h2, ← Act.put_defers]
        exact h9
      case enter f args =>
        refine ⟨h9.1, CallsIn.mono h9.2 fun e w'' he => ?_⟩
        cases e with
        | returned u => exact ⟨keep a u hy, by rw [← Act.put_comm a v u h2]; exact he⟩
        | panicked c => exact hQ _ _ _ he
        | outgrown => exact he
      case row row args => exact ⟨h9.1, RowsIn.mono h9.2 fun u w'' he => ⟨keep a u hy, by rw [← Act.put_comm a v u h2]; exact he⟩⟩
      case round l f tmps assign body =>
        refine ⟨h9.1, RoundIn.mono h9.2 fun e w'' he => ?_⟩
        cases e with
        | returned u => exact ⟨keep a u hy, by rw [← Act.put_comm a v u h2]; exact he⟩
        | panicked c => exact hQ _ _ _ he
        | outgrown => exact he
    | halt x w' =>
      cases x <;> simp only [Oper.uponIn] at h9 ⊢
      case panic u => exact hQ _ _ _ h9
  · rename_i hw
    simp only [hw] at h
    exact ⟨fun _ _ => trivial, keep a _ hy, by rw [← Act.put_comm a v undef h2]; exact h.2⟩
theorem anyJ_first {i : Nat} {oi : Oper} {v : Value} (hi : ops[i]? = some oi) (hsel : ∀ (j : Nat) (o : Oper) cs b, ops[j]? = some o → o.op ≠ .select cs b) (hnd : ∀ (j : Nat) (o : Oper) c, ops[j]? = some o → o.op ≠ .defer c)
    (hQ : ∀ c a w, Q (.panic c) (a.put oi.dst v) w → Q (.panic c) a w) :
    ∀ (fuel : Nat) (listed : Array Bool) (a : Act) (w : World),
      (∀ j oj, ops[j]? = some oj → j ≠ i → listed.getD j true = false → (∀ e ∈ oj.after, Region.binds .any e = true → e.on ≠ i) → oi.apart ops oj = true) →
      i ∈ Region.ready .any ops listed → PureH P ops S oi v a → S w →
      AnyJ P r m ops Q S fuel (listed.setIfInBounds i true) (a.put oi.dst v) w → AnyJ P r m ops Q S (fuel + 1) listed a w := by
  intro fuel
  induction fuel with
  | zero =>
    intro listed a w _ hr hy hS H
    refine ⟨fun h => (by rw [h] at hr; cases hr), fun j hj => ?_⟩
    by_cases hji : j = i
    · subst hji; exact hy.op hi hS ⟨hS, H⟩
    · have := ready_mono hj hji
      rw [H.1] at this
      cases this
  | succ fuel ih =>
    intro listed a w hfree hr hy hS H
    refine ⟨fun h => (by rw [h] at hr; cases hr), fun j hj => ?_⟩
    by_cases hji : j = i
    · subst hji; exact hy.op hi hS ⟨hS, H⟩
    · have h1 := H.2 j (ready_mono hj hji)
      obtain ⟨hjun, oj, hoj, hall⟩ := mem_ready.1 hj
      have hnot : ∀ e ∈ oj.after, Region.binds .any e = true → e.on ≠ i := fun e he hb heq => by
        have h1 := hall e he hb
        have h0 := (mem_ready.1 hr).1
        rw [heq] at h1
        rcases Nat.lt_or_ge i listed.size with h' | h'
        · simp [h'] at h0 h1; rw [h0] at h1; cases h1
        · simp [Array.getElem?_eq_none h'] at h1
      have h2 := opJ_put (S := S) hoj (hfree j oj hoj hji hjun hnot) (fun cs b => hsel i oi cs b hi) (fun cs b => hsel j oj cs b hoj) (fun c => hnd j oj c hoj) hQ hy h1
      have hfree' : ∀ k ok, ops[k]? = some ok → k ≠ i → (listed.setIfInBounds j true).getD k true = false →
          (∀ e ∈ ok.after, Region.binds .any e = true → e.on ≠ i) → oi.apart ops ok = true := fun k ok hk hki hun hno => by
        refine hfree k ok hk hki ?_ hno
        by_cases hjk : j = k
        · subst hjk; exact hjun
        · rw [getD_set_ne true hjk] at hun; exact hun
      refine wpOpIn_mono (fun a' w' h3 => ⟨h3.2.1, ih (listed.setIfInBounds j true) a' w' hfree' (ready_mono hr (Ne.symm hji)) h3.1 h3.2.1 ?_⟩) h2
      rw [Array.setIfInBounds_comm _ _ hji]
      exact h3.2.2
end
def noDefer (ops : Array Oper) : Bool := ops.toList.all fun o => match o.op with | .defer _ => false | _ => true
theorem noDefer_spec {ops : Array Oper} (h : noDefer ops = true) : ∀ (j : Nat) (o : Oper) c, ops[j]? = some o → o.op ≠ .defer c := fun j o c hj he => by
  have hm : o ∈ ops.toList := by rw [← Array.getElem?_toList] at hj; exact List.mem_of_getElem? hj
  have := List.all_eq_true.1 h o hm
  rw [he] at this; cases this
section
variable {P : Program} {ops ops0 : Array Oper} {Q Q' : Exit → Act → World → Prop} {S : World → Prop} {T : List Row} {L : List Value} {Ds : List Nat} {fuel n : Nat} {done : List Nat} {ws : List (Nat × Value)} {w : World} {r : Option Nat} {m : Nat}
structure IReg (P : Program) (ops0 ops : Array Oper) (Q : Exit → Act → World → Prop) (L : List Value) (T : List Row) : Prop extends Reg P ops0 ops Q L T where
  nodef : noDefer ops = true
structure IWD (P : Program) (r : Option Nat) (m : Nat) (Ds : List Nat) (ops : Array Oper) (Q : Exit → Act → World → Prop) (S : World → Prop) (L : List Value) (fuel : Nat) (done : List Nat) (ws : List (Nat × Value)) (w : World) : Prop where
  out : (∀ p ∈ ws, p.1 < L.length) → AnyJ P r m ops Q S fuel (lset ops.size done) ⟨(setAll L ws).toArray, marks Ds⟩ w
theorem icw_draw {id : Nat} {ops0 : Array Oper} (T : List Row) (S : World → Prop) (hm : P.follows .mixedOrders = true) (ht : tableR ops0 = T) (hg : goodT n ops0.size T = true) (hs : (Region.noSelect ops0 && noDefer ops0) = true) (hQ : Calm Q) (_hS : S w.drew)
    (h : ∀ (ops : Array Oper) (Q' : Exit → Act → World → Prop) (X : World), Ext w X → L.length = n → IReg P ops0 ops Q' L T → Shut (∀ ws w, IQW Ds Q .normal n L ws w → IQW Ds Q' .normal n L ws w) → IWD P r m Ds ops Q' S L ops0.size [] ws X) : ICW P r m Ds (.region id ops0 true) Q n L ws w := ⟨fun b => by
  obtain ⟨hs1, hs2⟩ := Bool.and_eq_true_iff.1 hs
  have h9 := (h ops0 Q _ (Ext.drew (Ext.refl _)) b.1 ⟨⟨rfl, ht, by rw [b.1]; exact hg, hs1, hQ⟩, hs2⟩ (fun _ _ h => h)).out b.lt
  exact wpIn_region_any hm (anyJ_sound _ _ _ _ h9)⟩
theorem iwd_end (hL : L.length = n) (hR : IReg P ops0 ops Q' L T) (hK : Shut (∀ ws w, IQW Ds Q .normal n L ws w → IQW Ds Q' .normal n L ws w)) (hd : upT done (numbered T 0) = []) (h : IQW Ds Q .normal n L ws w) : IWD P r m Ds ops Q' S L fuel done ws w := ⟨fun hb => by
  have hr : Region.ready .any ops (lset ops.size done) = [] := by
    rw [List.eq_nil_iff_forall_not_mem]
    intro j hj
    have := ready_up hR.toReg hj
    rw [hd] at this; cases this
  have hq := (hK _ _ h).out ⟨hL, fun p hp => by rw [← hL]; exact hb p hp⟩
  cases fuel with
  | zero => exact ⟨hr, hq⟩
  | succ k => exact ⟨fun _ => hq, by rw [hr]; simp⟩⟩
theorem iwd_take (i : Nat) {d : Nat} {oi : Oper} {rs : List Oper} (v : Value) (hR : IReg P ops0 ops Q' L T) (hi : ops0.toList.drop i = oi :: rs) (hr : readyT T done i = true) (hdst : oi.dst = some d)
    (hw : wantedW T L ws oi.guard = true) (hy : ∀ w, S w → (execOp (evalW L ws) oi).run P w = .ok (.value v) w) (hS : S w)
    (h : IWD P r m Ds ops Q' S L fuel (i :: done) ((d, v) :: ws) w) : IWD P r m Ds ops Q' S L (fuel + 1) done ws w := ⟨fun hb => by
  have ho := op_at hR.toReg hi
  refine anyJ_first (v := v) ho (Region.noSelect_spec hR.nosel) (noDefer_spec hR.nodef) (fun c a w => hR.calm c _ _ a w) fuel _ _ w (apart_of_good hR.tab hR.good ho hr) (readyT_mem hR.tab hR.good ho hr) ?_ hS ?_
  · exact .inl ⟨wanted_W (marks Ds) hR.tab hR.good hb hw, fun w hw => by rw [eval_W hb]; exact hy w hw⟩
  · rw [put_W, hdst]; exact h.out (putW_lt (d := some d) hb (fun k e => by cases e; exact dst_lt hR.toReg ho _ hdst))⟩
theorem iwd_skip (i : Nat) {d : Nat} {oi : Oper} {rs : List Oper} (hR : IReg P ops0 ops Q' L T) (hi : ops0.toList.drop i = oi :: rs) (hr : readyT T done i = true) (hdst : oi.dst = some d)
    (hw : wantedW T L ws oi.guard = false) (hS : S w)
    (h : IWD P r m Ds ops Q' S L fuel (i :: done) ((d, undef) :: ws) w) : IWD P r m Ds ops Q' S L (fuel + 1) done ws w := ⟨fun hb => by
  have ho := op_at hR.toReg hi
  refine anyJ_first (v := undef) ho (Region.noSelect_spec hR.nosel) (noDefer_spec hR.nodef) (fun c a w => hR.calm c _ _ a w) fuel _ _ w (apart_of_good hR.tab hR.good ho hr) (readyT_mem hR.tab hR.good ho hr) ?_ hS ?_
  · exact .inr ⟨wanted_W (marks Ds) hR.tab hR.good hb hw, rfl⟩
  · rw [put_W, hdst]; exact h.out (putW_lt (d := some d) hb (fun k e => by cases e; exact dst_lt hR.toReg ho _ hdst))⟩
theorem calm_no (h : ∀ c a w, ¬ Q (.panic c) a w) : Calm Q := fun c _ _ _ w q => (h c _ w q).elim
theorem calm_ibody {m : Nat} {fn : Func} {R : Ending → World → Prop} : Calm (IBody m P fn R) := calm_no fun _ _ _ h => h
end
section
variable {P : Program} {n : Nat} {L : List Value} {ws : List (Nat × Value)} {w : World} {m : Nat}
theorem iqw_ret0 {fn : Func} {R : Ending → World → Prop} {rs : List ResultVar} (vs : List Value) (hf : fn.results = rs.toArray) (h : ResV P (evalW L ws) w rs vs) (hR : R (.returned (resOf vs)) w) : IQW [] (IBody m P fn R) .ret n L ws w := ⟨fun b => by
  show LeavesInM Fence.wide m P fn (setAll L ws).toArray R [] .returning w
  exact ⟨_, res_run (a := ⟨(setAll L ws).toArray, []⟩) hf (by rw [eval_W b.lt]; exact h), hR⟩⟩
theorem iqw_end0 {fn : Func} {R : Ending → World → Prop} {rs : List ResultVar} (vs : List Value) (hf : fn.results = rs.toArray) (h : ResV P (evalW L ws) w rs vs) (hR : R (.returned (resOf vs)) w) : IQW [] (IBody m P fn R) .normal n L ws w := ⟨fun b => by
  show LeavesInM Fence.wide m P fn (setAll L ws).toArray R [] .returning w
  exact ⟨_, res_run (a := ⟨(setAll L ws).toArray, []⟩) hf (by rw [eval_W b.lt]; exact h), hR⟩⟩
end
theorem yield_mono {F : Fence} {m : Nat} {P : Program} {l : Nat} {args : Array Value} {W : World} {R R' : Ending → World → Prop} (h : YieldAt F m P l args W R) (hr : ∀ e w', R e w' → R' e w') : YieldAt F m P l args W R' :=
  let ⟨fn, tmps, assign, body, h1, h2⟩ := h; ⟨fn, tmps, assign, body, h1, h2.mono hr⟩
theorem mk_ext {A B : World} {D : Nat} {o : Obj} (h : A.heap[D]? = some o) (e : Ext A B) : B.heap[D]? = some o := (e.block _ (Array.getElem?_eq_some_iff.1 h).1).trans h
theorem mk_turn {A B : World} {D O : Nat} {x : Option (List Deferred)} (h : A.heap[D]? = some (.deferred x)) (t : Turns O A B) : B.heap[D]? = some (.deferred x) := by
  by_cases e : D = O
  · subst e; exact t.oth' _ h rfl
  · rw [t.heap' D e]; exact h
theorem marksC {n₀ D : Nat} {w : World} {Ds : List Nat} (h : n₀ ≤ D) (hm : w.heap[D]? = some (.deferred (some []))) (hr : ∀ D' ∈ Ds, n₀ ≤ D' ∧ w.heap[D']? = some (.deferred (some []))) : ∀ D' ∈ D :: Ds, n₀ ≤ D' ∧ w.heap[D']? = some (.deferred (some [])) := fun D' hD => by
  rcases List.mem_cons.1 hD with rfl | hD
  · exact ⟨h, hm⟩
  · exact hr D' hD
/-! What a call may write: the blocks of X. -/
structure Wrote (X : Nat → Prop) (A B : World) : Prop where
  os : B.os = A.os
  tape : B.tape = A.tape
  output : B.output = A.output
  size : A.heap.size ≤ B.heap.size
  same : ∀ (k : Nat), k < A.heap.size → ¬ X k → B.heap[k]? = A.heap[k]?
  oth : ∀ (k : Nat) (o : Obj), A.heap[k]? = some o → o.isCells = false → B.heap[k]? = some o
theorem Wrote.refl (X : Nat → Prop) (A : World) : Wrote X A A := ⟨rfl, rfl, rfl, Nat.le_refl _, fun _ _ _ => rfl, fun _ _ h _ => h⟩
theorem Wrote.trans {X : Nat → Prop} {A B C : World} (h : Wrote X A B) (k : Wrote X B C) : Wrote X A C :=
  ⟨k.os.trans h.os, k.tape.trans h.tape, k.output.trans h.output, Nat.le_trans h.size k.size, fun i hi hx => (k.same i (Nat.lt_of_lt_of_le hi h.size) hx).trans (h.same i hi hx), fun i o hi ho => k.oth i o (h.oth i o hi ho) ho⟩
theorem Wrote.of_ext {X : Nat → Prop} {A B : World} (e : Ext A B) : Wrote X A B :=
  ⟨e.os, e.tape, e.output, e.size, fun k hk _ => e.block k hk, fun k _o hk _ => (e.block k (Array.getElem?_eq_some_iff.1 hk).1).trans hk⟩
theorem Wrote.of_turns {X : Nat → Prop} {A B : World} {O : Nat} (t : Turns O A B) (hx : X O) : Wrote X A B := by
  have h0 : Ext { A with heap := #[] } A := ⟨rfl, rfl, rfl, Nat.zero_le _, fun k hk => absurd hk (Nat.not_lt_zero k)⟩
  have h1 := t.ext h0 (Nat.zero_le _)
  refine ⟨h1.os, h1.tape, h1.output, Nat.le_of_eq t.size.symm, fun k _ hk => t.heap' k (fun e => hk (e ▸ hx)), fun k o hk ho => ?_⟩
  by_cases e : k = O
  · subst e; exact t.oth' o hk ho
  · rw [t.heap' k e]; exact hk
theorem Wrote.step {X : Nat → Prop} {A B C : World} (h : Wrote X A B) (e : Ext B C) : Wrote X A C := h.trans (Wrote.of_ext e)
/-- A turn of a block that is new, or of X. -/
theorem Wrote.turn {X : Nat → Prop} {A B C : World} (h : Wrote X A B) {O : Nat} (t : Turns O B C) (hO : X O ∨ A.heap.size ≤ O) : Wrote X A C := by
  rcases hO with q | q
  · exact h.trans (Wrote.of_turns t q)
  · have k := Wrote.of_turns (X := fun k => k = O) t rfl
    exact ⟨k.os.trans h.os, k.tape.trans h.tape, k.output.trans h.output, Nat.le_trans h.size k.size, fun i hi hx => (k.same i (Nat.lt_of_lt_of_le hi h.size) (fun e => by omega)).trans (h.same i hi hx), fun i o hi ho => k.oth i o (h.oth i o hi ho) ho⟩
theorem Wrote.ext {X : Nat → Prop} {A B U : World} (h : Wrote X A B) (hU : Ext U A) (hx : ∀ k, X k → U.heap.size ≤ k) : Ext U B :=
  ⟨h.os.trans hU.os, h.tape.trans hU.tape, h.output.trans hU.output, Nat.le_trans hU.size h.size, fun k hk => (h.same k (Nat.lt_of_lt_of_le hk hU.size) (fun q => absurd hk (Nat.not_lt_of_le (hx k q)))).trans (hU.block k hk)⟩
theorem Wrote.kept {X Y : Nat → Prop} {A B : World} (h : Wrote X A B) (hx : ∀ k, X k → Y k) : KeptX Y A B :=
  ⟨h.size, fun k _o hk _ hy => (h.same k (Array.getElem?_eq_some_iff.1 hk).1 (fun q => hy (hx k q))).trans hk⟩
theorem Wrote.cell {X : Nat → Prop} {A B : World} (h : Wrote X A B) {b o : Nat} {v : Value} (hb : ¬ X b) (hv : A.cell? ⟨b, o, none⟩ = some v) : B.cell? ⟨b, o, none⟩ = some v := (h.kept (fun _ q => q)).cell hb hv
theorem Wrote.box {X : Nat → Prop} {A B : World} (h : Wrote X A B) {b o : Nat} {v : Value} (hb : ¬ X b) (hv : BoxAt A b o v) : BoxAt B b o v := (h.kept (fun _ q => q)).box hb hv
theorem Wrote.va {X : Nat → Prop} {A B : World} (h : Wrote X A B) {b o : Nat} {l : List Int} (hb : ¬ X b) (hv : VA A b o l) : VA B b o l := ⟨fun i hi => h.cell hb (hv.1 i hi), hv.2⟩
theorem Wrote.rows {X : Nat → Prop} {A B : World} (h : Wrote X A B) {b : Nat} {l : List Int} (hb : ¬ X b) (hv : RowsAt A b l) : RowsAt B b l :=
  ⟨hv.1, fun _i hi => h.cell hb (hv.cell hi), fun _i hi => (h.box hb ⟨hv.cell hi, hv.free hi⟩).2⟩
end Go.Proofs.Ytnbjjddfcondlaa

/- Lists of one's own beside boxes and areas: what an append, a store, a loop's own book-keeping leave of them. -/
namespace Go.Proofs.Ytnbjjddfcondlaa
open Go.RowKit

/-- Appending one element; what is not the list's block is as it was. -/
theorem own_app1k {α : Type} {R : Rep α} {P : Program} {t ty e : TypeId} {z : Value} {size bytes : Nat} (E : ElemT P t e z size bytes) {n₀ : Nat} {v : Value} {w : World} {l : List α} (h : OwnL R n₀ e size v w l) (hn : n₀ ≤ w.heap.size) {k : Nat} (hl : l.length = k)
    {O c : Nat} {x : α} {d : List Value} {F : List Nat} (hsz : d.length = size) (hcell : ∀ j u, d[j]? = some u → w.cell? ⟨O, j, none⟩ = some u) (h1 : ∀ u ∈ d, u.oneCell' = true)
    (hR : R.rel w d x F) (hF : ∀ b ∈ F, v.ownBlock ≠ some b) (hb : (k + 1) * bytes ≤ 140737488355328) (hmax : k + 1 ≤ 9223372036854775807) :
    ∃ g cap w', (Builtin.append_ #[t, t] ty #[v, .slice (some ⟨O, 0, none⟩) 1 c]).run P w = .ok (.slice (some ⟨g, 0, none⟩) (k + 1) cap) w' ∧ OwnL R n₀ e size (.slice (some ⟨g, 0, none⟩) (k + 1) cap) w' (l ++ [x]) ∧ Grew n₀ w w' ∧ w.grownBy w' v.ownBlock := by
  subst hl
  obtain ⟨cs, h2, h3, h4, h5⟩ := h
  obtain ⟨i, hi, hz0, hz1, hz2⟩ := info_parts E.info
  obtain ⟨v', w', hrun, hown, hg, hiff, hat⟩ := run_append_own_at (P := P) w n₀ t ty e i z size bytes E.under hi hz0 hz1 hz2 E.zs E.pos v l.length cs.flatten h4 ⟨O, 0, none⟩ 1 c d (by rw [hsz, Nat.one_mul]) (fun j u hj => by
    rw [Addr.add_mid, Nat.zero_add]; exact hcell j u hj) h1 (by unfold maxLen; exact hmax) hb hn
  have hnb : ∀ F : List Nat, (∀ b ∈ F, v.ownBlock ≠ some b) → (∀ b ∈ F, b < w.heap.size) → (∀ b ∈ F, v'.ownBlock ≠ some b) ∧ ∀ b ∈ F, ∀ o u, w.cell? ⟨b, o, none⟩ = some u → w'.cell? ⟨b, o, none⟩ = some u := by
    intro F hF hFl
    refine ⟨fun b hbF hv' => ?_, fun b hbF o u hu => hg.cell hu (fun e => hF b hbF e.symm)⟩
    rcases hat with e1 | e1
    · exact hF b hbF (by rw [← e1]; exact hv')
    · rw [e1] at hv'; cases hv'; have := hFl _ hbF; omega
  have hO : OwnL R n₀ e size v' w' (l ++ [x]) := ⟨cs ++ [d], by simp [h2], by
      intro y hy
      rcases List.mem_append.1 hy with hy | hy
      · exact h3 y hy
      · rw [List.mem_singleton.1 hy]; exact hsz, by rw [List.flatten_append, List.length_append]; simpa using hown, by
      intro j y c hx hc
      rcases Nat.lt_or_ge j l.length with hj | hj
      · rw [List.getElem?_append_left hj] at hx
        rw [List.getElem?_append_left (by rw [h2]; exact hj)] at hc
        obtain ⟨F, q1, q2⟩ := h5 j y c hx hc
        obtain ⟨k1, k2⟩ := hnb F q2 (R.lt q1)
        exact ⟨F, R.keep q1 k2, k1⟩
      · rw [List.getElem?_append_right hj] at hx
        rw [List.getElem?_append_right (by rw [h2]; exact hj), h2] at hc
        match hj' : j - l.length, hx, hc with
        | 0, hx, hc =>
          simp at hx hc; subst hx hc
          obtain ⟨k1, k2⟩ := hnb F hF (R.lt hR)
          exact ⟨F, R.keep hR k2, k1⟩
        | _ + 1, hx, _ => simp at hx⟩
  rcases hown.2 with ⟨q, _⟩ | ⟨g, cap, cur, q, _, _, q3, _⟩
  · have := (hiff.1 q).2; omega
  · subst q
    exact ⟨g, cap, w', hrun, hO, ⟨hg.size, fun U hU hUn => Ext.own' hU h4 hUn hg⟩, hg⟩
theorem own_not {v : Value} {n b : Nat} (h : ∀ b, v.ownBlock = some b → n ≤ b) (hb : b < n) : v.ownBlock ≠ some b := fun e => by have := h b e; omega
theorem own_not2 {v : Value} {m b : Nat} (h : ∀ b, v.ownBlock = some b → b < m) (hb : m ≤ b) : v.ownBlock ≠ some b := fun e => by have := h b e; omega

theorem away_cons {v : Value} {b : Nat} {F : List Nat} (h : v.ownBlock ≠ some b) (k : ∀ c ∈ F, v.ownBlock ≠ some c) : ∀ c ∈ b :: F, v.ownBlock ≠ some c := fun c hc => by
  rcases List.mem_cons.1 hc with rfl | hc
  · exact h
  · exact k c hc
theorem OwnL.turn {α : Type} {R : Rep α} {n₀ : Nat} {e : TypeId} {size : Nat} {v : Value} {w X : World} {l : List α} {O : Nat} (h : OwnL R n₀ e size v w l) (ho : Turns O w X) (h1 : v.ownBlock ≠ some O) (h2 : ∀ c x F, R.rel w c x F → ∀ b ∈ F, b ≠ O) : OwnL R n₀ e size v X l := by
  obtain ⟨cs, q1, q2, q3, q4⟩ := h
  refine ⟨cs, q1, q2, ⟨q3.1, ?_⟩, fun j x c hx hc => ?_⟩
  · rcases q3.2 with q | ⟨g, cap, cur, rfl, hb, hcur, rest⟩
    · exact .inl q
    · refine .inr ⟨g, cap, cur, rfl, hb, ?_, rest⟩
      rw [ho.heap' g (fun e => h1 (by rw [← e]; rfl))]; exact hcur
  · obtain ⟨F, k1, k2⟩ := q4 j x c hx hc
    exact ⟨F, R.keep k1 (fun b hb o u hu => ho.cell (fun e => h2 _ _ _ k1 b hb e.symm) hu), k2⟩
theorem fresh_noF {α : Type} {R : Rep α} {m O : Nat} {w : World} (hO : O < m) : ∀ c x F, (freshR m R).rel w c x F → ∀ b ∈ F, b ≠ O := fun _ _ _ h b hb e => by have := h.2 b hb; omega
theorem RowsAt.grownR {w w' : World} {r : Option Nat} {b : Nat} {l : List Int} (h : RowsAt w b l) (hg : w.grownBy w' r) (hne : r ≠ some b) : RowsAt w' b l :=
  ⟨h.1, fun _i hi => hg.cell (h.cell hi) (fun e => hne e.symm), fun _i hi => (BoxAt.grownR ⟨h.cell hi, h.free hi⟩ hg hne).2⟩
theorem KeepX.step {n₀ : Nat} {X : Nat → Prop} {A B C : World} (h : KeepX n₀ X A B) (e : Ext B C) (hn : n₀ ≤ B.heap.size) : KeepX n₀ X A C := h.trans (KeepX.of_ext e hn)
theorem KeptX.turn {X : Nat → Prop} {A B C : World} (h : KeptX X A B) {O : Nat} (t : Turns O B C) (hO : A.heap.size ≤ O) : KeptX X A C :=
  ⟨by rw [t.size]; exact h.size, fun k o hk ho hx => by
    have hk1 := (Array.getElem?_eq_some_iff.1 hk).1
    rw [t.heap' k (by omega)]; exact h.cells k o hk ho hx⟩
/-! Lists of one's own within a set of blocks: the list's own block, and all that its elements look into, lie in S. -/
def inR {α : Type} (S : Nat → Prop) (R : Rep α) : Rep α where
  rel w c x F := R.rel w c x F ∧ ∀ b ∈ F, S b
  keep := fun h hk => ⟨R.keep h.1 hk, h.2⟩
  lt := fun h => R.lt h.1
structure OwnS {α : Type} (S : Nat → Prop) (R : Rep α) (e : TypeId) (size : Nat) (v : Value) (w : World) (l : List α) : Prop where
  own : OwnL (inR S R) 0 e size v w l
  blk : ∀ b, v.ownBlock = some b → S b
theorem OwnS.nil {α : Type} (S : Nat → Prop) (R : Rep α) (e : TypeId) (size : Nat) (w : World) : OwnS S R e size (.slice none 0 0) w [] := ⟨OwnL.nil _ _ _ _ _, fun b h => by cases h⟩
theorem OwnS.ext {α : Type} {S : Nat → Prop} {R : Rep α} {e : TypeId} {size : Nat} {v : Value} {w w' : World} {l : List α} (h : OwnS S R e size v w l) (hE : Ext w w') : OwnS S R e size v w' l := ⟨h.own.ext hE, h.blk⟩
theorem OwnS.mv {α : Type} {S : Nat → Prop} {R : Rep α} {e : TypeId} {size m : Nat} {v : Value} {w w' : World} {l : List α} (h : OwnS S R e size v w l) (hm : Mv m w w') : OwnS S R e size v w' l := ⟨hm.own h.own, h.blk⟩
theorem OwnS.lt {α : Type} {S : Nat → Prop} {R : Rep α} {e : TypeId} {size : Nat} {v : Value} {w : World} {l : List α} (h : OwnS S R e size v w l) : ∀ b, v.ownBlock = some b → b < w.heap.size := h.own.lt
theorem OwnS.turn {α : Type} {S : Nat → Prop} {R : Rep α} {e : TypeId} {size : Nat} {v : Value} {w X : World} {l : List α} {O : Nat} (h : OwnS S R e size v w l) (ho : Turns O w X) (hO : ¬ S O) : OwnS S R e size v X l :=
  ⟨h.own.turn ho (fun e => hO (h.blk O e)) fun _c _x _F hr b hb e => hO (e ▸ hr.2 b hb), h.blk⟩
theorem OwnS.not {α : Type} {S : Nat → Prop} {R : Rep α} {e : TypeId} {size : Nat} {v : Value} {w : World} {l : List α} {b : Nat} (h : OwnS S R e size v w l) (hb : ¬ S b) : v.ownBlock ≠ some b := fun e => hb (h.blk b e)
theorem OwnL.into {α : Type} {S : Nat → Prop} {R : Rep α} {n₀ : Nat} {e : TypeId} {size : Nat} {v : Value} {w : World} {l : List α} (h : OwnL R n₀ e size v w l) (hS : ∀ c x F, R.rel w c x F → ∀ b ∈ F, S b) : OwnL (inR S R) 0 e size v w l := by
  obtain ⟨cs, h1, h2, h3, h4⟩ := h
  refine ⟨cs, h1, h2, ⟨h3.1, ?_⟩, fun j x c hx hc => by obtain ⟨F, q1, q2⟩ := h4 j x c hx hc; exact ⟨F, ⟨q1, hS _ _ _ q1⟩, q2⟩⟩
  rcases h3.2 with q | ⟨g, cap, cur, q, hb, rest⟩
  · exact .inl q
  · exact .inr ⟨g, cap, cur, q, Nat.zero_le _, rest⟩
theorem OwnS.mono {α : Type} {S T : Nat → Prop} {R : Rep α} {e : TypeId} {size : Nat} {v : Value} {w : World} {l : List α} (h : OwnS S R e size v w l) (hST : ∀ k, k < w.heap.size → S k → T k) : OwnS T R e size v w l := by
  obtain ⟨⟨cs, h1, h2, h3, h4⟩, hb⟩ := h
  exact ⟨⟨cs, h1, h2, h3, fun j x c hx hc => by obtain ⟨F, q1, q2⟩ := h4 j x c hx hc; exact ⟨F, ⟨q1.1, fun b hb => hST b (R.lt q1.1 b hb) (q1.2 b hb)⟩, q2⟩⟩, fun b e => hST b (h3.lt b e).2 (hb b e)⟩
/-- The world's first blocks. -/
def trunc (w : World) (g : Nat) : World := { w with heap := w.heap.extract 0 g }
theorem trunc_block (w : World) {g k : Nat} (hk : k < g) : (trunc w g).heap[k]? = w.heap[k]? := by
  show (w.heap.extract 0 g)[k]? = _
  rw [Array.getElem?_extract]
  split
  · rw [Nat.zero_add]
  · rw [Array.getElem?_eq_none]; omega
theorem trunc_ext (w : World) (g : Nat) : Ext (trunc w g) w := ⟨rfl, rfl, rfl, by simp [trunc]; omega, fun k hk => (trunc_block w (by simp [trunc] at hk; omega)).symm⟩
theorem trunc_size (w : World) (g : Nat) : (trunc w g).heap.size ≤ g := by simp [trunc]; omega
section
variable {w w' : World} {g : Nat}
theorem old_block (hU : ∀ U, Ext U w → U.heap.size ≤ g → Ext U w') {b : Nat} (hb : b < g) (hw : b < w.heap.size) : w'.heap[b]? = w.heap[b]? := by
  rw [← trunc_block w hb]
  exact (hU _ (trunc_ext w g) (trunc_size w g)).block b (by simp [trunc]; omega)
theorem old_cell (hU : ∀ U, Ext U w → U.heap.size ≤ g → Ext U w') {b o : Nat} {v : Value} (h : w.cell? ⟨b, o, none⟩ = some v) (hb : b < g) : w'.cell? ⟨b, o, none⟩ = some v :=
  (World.cell?_of_block (w := w) (old_block hU hb (World.block_lt_of_cell? _ _ h))).trans h
theorem old_box (hU : ∀ U, Ext U w → U.heap.size ≤ g → Ext U w') {b o : Nat} {v : Value} (h : BoxAt w b o v) (hb : b < g) : BoxAt w' b o v :=
  ⟨old_cell hU h.1 hb, (World.frozen?_of_block (old_block hU hb h.lt)).trans h.2⟩
end
theorem KeepX.box {n₀ : Nat} {X : Nat → Prop} {A B : World} (hk : KeepX n₀ X A B) {b o : Nat} {v : Value} (h : BoxAt A b o v) (hb : b < n₀) (hx : ¬ X b) : BoxAt B b o v :=
  ⟨(hk.cell hb hx).trans h.1, (World.frozen?_of_block (hk.block b hb hx)).trans h.2⟩
theorem OwnS.cap {α : Type} {S : Nat → Prop} {R : Rep α} {e : TypeId} {size : Nat} {a : Option Addr} {n c : Nat} {w : World} {l : List α} (h : OwnS S R e size (.slice a n c) w l) (hl : l.length = n) : n ≤ c := by
  obtain ⟨⟨cs, h1, h2, h3, h4⟩, hb⟩ := h
  rcases h3.2 with ⟨q, q2⟩ | ⟨g, cap, cur, q, _, _, hc, _⟩
  · injection q with r1 r2 r3; omega
  · injection q with r1 r2 r3; omega
end Go.Proofs.Ytnbjjddfcondlaa
