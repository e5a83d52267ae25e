/- Part 1 of what the proof of ReplicaMatchesReference stands on. -/
import Derived.Test.YtfmoabgjaclkpaaGreatDoorProg
import Derived.WalkKit
import Derived.WalkSpells
import Derived.WalkLawsBesides
import Derived.Handy
import Derived.Laws.EntriesVeiled
import Derived.Lib.Hide
import Derived.Deep.QuietTactic
import Derived.BigQuiet
import Derived.Deep.RegionHeld3
import Derived.Lib.TrailingZeros
import Derived.Scope
import Derived.RangeFuncOwn
import Derived.Shelf.SlSortCmp.WholeK
import Derived.Shelf.Lay
import Derived.Ground.SlsfProg
import Derived.RangeFuncNested
import Derived.RangeFuncBound
import Derived.RangeFuncCalls
import Derived.RangeFuncLeaves
import Derived.RangeFuncBox
import Derived.Shelf.Abstract
import Derived.Shelf.RegionOpen
import Derived.OwnWalkIn
import Derived.TacticsInMore
import Derived.LoopNIn
import Derived.LoopIn
import Derived.OwnWalk
import Derived.Maps.AppendAt
import Derived.OrdersIn
import Derived.TacticsIn
import Derived.Maps.RangeRun
import Derived.MapKept
namespace Go.Proofs.YtfmoabgjaclkpaaGreatDoor
open Go.RowKit
def Ext (w w' : World) : Prop := Below w.heap.size w w'
theorem Ext.refl (w : World) : Ext w w := Below.refl _ _
theorem Ext.trans {a b c : World} (h : Ext a b) (k : Ext b c) : Ext a c := Below.trans h (Below.mono k (Below.size h))
theorem Ext.alloc {a b : World} (h : Ext a b) (o : Obj) : Ext a (b.alloc o) := Below.alloc h (Below.size h) o
theorem Ext.drew {a b : World} (h : Ext a b) : Ext a b.drew := Below.drew h
theorem Ext.drewN {a b : World} (h : Ext a b) (n : Nat) : Ext a (b.drewN n) := Below.trans h ⟨rfl, rfl, rfl, Nat.le_refl _, fun _ _ => rfl⟩
theorem Ext.setCell {a b : World} (h : Ext a b) {p : Addr} (hp : a.heap.size ≤ p.block) (u : Value) : Ext a (b.setCell p u) := Below.setCell h hp u
theorem Ext.size {a b : World} (h : Ext a b) : a.heap.size ≤ b.heap.size := Below.size h
theorem Ext.below {a b : World} (h : Ext a b) : Below a.heap.size a b := h
theorem Ext.cell {W w1 : World} (hb : Ext W w1) {a : Addr} {v : Value} (h : W.cell? a = some v) : w1.cell? a = some v := by
  rw [Below.cell hb (World.block_lt_of_cell? W a h)]; exact h
theorem Ext.free {W w1 : World} (hb : Ext W w1) {a : Addr} {v : Value} (h : W.cell? a = some v) (hf : W.frozen? a = false) : w1.frozen? a = false := by
  rw [Below.frozen hb (World.block_lt_of_cell? W a h)]; exact hf
end Go.Proofs.YtfmoabgjaclkpaaGreatDoor

namespace Go.Proofs.YtfmoabgjaclkpaaGreatDoor
namespace Globe
def inB (n lo hi : Int) : Bool := decide (lo ≤ n ∧ n ≤ hi)
theorem inB_t {n lo hi : Int} : inB n lo hi = true ↔ lo ≤ n ∧ n ≤ hi := by simp [inB]
theorem inB_f {n lo hi : Int} : inB n lo hi = false ↔ n < lo ∨ hi < n := by simp [inB]; omega
def nth (l : List Int) (i : Nat) : Int := l[i]?.getD 0
theorem nth_lt {l : List Int} {i : Nat} (h : i < l.length) : nth l i = l[i] := by rw [nth, List.getElem?_eq_getElem h]; rfl
theorem nth_ge {l : List Int} {i : Nat} (h : l.length ≤ i) : nth l i = 0 := by rw [nth, List.getElem?_eq_none h]; rfl
theorem nth_mem {l : List Int} {i : Nat} (h : i < l.length) : nth l i ∈ l := by rw [nth_lt h]; exact List.getElem_mem h
def rowOk (r : Int) : Bool := decide (0 ≤ r ∧ r ≤ 281474976710655)
theorem rowOk_t {r : Int} : rowOk r = true ↔ 0 ≤ r ∧ r ≤ 281474976710655 := by simp [rowOk]
def validL (l : List Int) : Bool := l.length == 24 && l.all rowOk
theorem validL_t {l : List Int} : validL l = true ↔ l.length = 24 ∧ ∀ r ∈ l, 0 ≤ r ∧ r ≤ 281474976710655 := by
  simp only [validL, Bool.and_eq_true, beq_iff_eq, List.all_eq_true, rowOk_t]
end Globe
end Go.Proofs.YtfmoabgjaclkpaaGreatDoor

namespace Go.Proofs.YtfmoabgjaclkpaaGreatDoor
open Go.RowKit
def IntsAt (w : World) (a : Option Addr) (l : List Int) : Prop :=
  l = [] ∨ ∃ b off, a = some ⟨b, off, none⟩ ∧ ∀ i, i < l.length → w.cell? ⟨b, off + i, none⟩ = some (.int .i64 (Globe.nth l i))
theorem IntsAt.ext {w w' : World} {a : Option Addr} {l : List Int} (h : IntsAt w a l) (hE : Ext w w') : IntsAt w' a l := by
  rcases h with h | ⟨b, off, rfl, h⟩
  · exact .inl h
  · exact .inr ⟨b, off, rfl, fun i hi => hE.cell (h i hi)⟩
end Go.Proofs.YtfmoabgjaclkpaaGreatDoor

namespace Go.Proofs.YtfmoabgjaclkpaaGreatDoor
open Go.RowKit
end Go.Proofs.YtfmoabgjaclkpaaGreatDoor

namespace Go.Proofs.YtfmoabgjaclkpaaGreatDoor
namespace Globe
end Globe
end Go.Proofs.YtfmoabgjaclkpaaGreatDoor

namespace Go.Proofs.YtfmoabgjaclkpaaGreatDoor
namespace Globe
theorem nth_set {l : List Int} {y : Nat} {v : Int} (j : Nat) (h : y < l.length) : nth (l.set y v) j = if y = j then v else nth l j := by
  unfold nth
  rw [List.getElem?_set]
  by_cases e : y = j
  · subst e; simp [h]
  · simp [e]
theorem len_of_valid {l : List Int} (h : validL l = true) : l.length = 24 := (validL_t.1 h).1
theorem row_of_valid {l : List Int} (h : validL l = true) (y : Nat) : 0 ≤ nth l y ∧ nth l y ≤ 281474976710655 := by
  by_cases hy : y < l.length
  · exact (validL_t.1 h).2 _ (nth_mem hy)
  · rw [nth_ge (by omega)]; omega
end Globe
end Go.Proofs.YtfmoabgjaclkpaaGreatDoor

namespace Go.Proofs.YtfmoabgjaclkpaaGreatDoor
open Go.RowKit
def RowsAt (w : World) (B : Nat) (L : List Int) : Prop := L.length = 24 ∧ (∀ i, i < 24 → w.cell? ⟨B, i, none⟩ = some (.int .i64 (Globe.nth L i))) ∧ ∀ i, i < 24 → w.frozen? ⟨B, i, none⟩ = false
theorem RowsAt.len {w : World} {B : Nat} {L : List Int} (h : RowsAt w B L) : L.length = 24 := h.1
theorem RowsAt.cell {w : World} {B : Nat} {L : List Int} (h : RowsAt w B L) {i : Nat} (hi : i < 24) : w.cell? ⟨B, i, none⟩ = some (.int .i64 (Globe.nth L i)) := h.2.1 i hi
theorem RowsAt.free {w : World} {B : Nat} {L : List Int} (h : RowsAt w B L) {i : Nat} (hi : i < 24) : w.frozen? ⟨B, i, none⟩ = false := h.2.2 i hi
theorem RowsAt.ext {w w' : World} {B : Nat} {L : List Int} (h : RowsAt w B L) (hE : Ext w w') : RowsAt w' B L :=
  ⟨h.1, fun _ hi => hE.cell (h.cell hi), fun _ hi => hE.free (h.cell hi) (h.free hi)⟩
theorem RowsAt.lt {w : World} {B : Nat} {L : List Int} (h : RowsAt w B L) : B < w.heap.size := World.block_lt_of_cell? w _ (h.cell (i := 0) (by omega))
theorem RowsAt.set {w : World} {B : Nat} {L : List Int} (h : RowsAt w B L) {y : Nat} (hy : y < 24) (v : Int) : RowsAt (w.setCell ⟨B, y, none⟩ (.int .i64 v)) B (L.set y v) := by
  refine ⟨by rw [List.length_set]; exact h.1, fun i hi => ?_, fun i hi => ?_⟩
  · rw [Globe.nth_set _ (by rw [h.1]; exact hy)]
    by_cases e : y = i
    · subst e; rw [if_pos rfl]; have := h.cell hy; simp [go_sem, this]
    · rw [if_neg e, ← h.cell hi]
      exact World.cell?_setCell_other w _ _ _ (by intro c; exact e (congrArg Addr.off c))
  · have := h.free hi; simpa [go_sem] using this
theorem RowsAt.ints {w : World} {B : Nat} {L : List Int} (h : RowsAt w B L) : ∀ i, i < L.length → w.cell? ⟨B, 0 + i, none⟩ = some (.int .i64 (Globe.nth L i)) := fun i hi => by
  rw [Nat.zero_add]; exact h.cell (by rw [← h.1]; exact hi)
end Go.Proofs.YtfmoabgjaclkpaaGreatDoor

namespace Go.Proofs.YtfmoabgjaclkpaaGreatDoor
namespace Globe
def rowN (l : List Int) (y : Nat) : Nat := (nth l y).toNat
theorem rowN_cast {l : List Int} (h : validL l = true) (y : Nat) : nth l y = (rowN l y : Int) := by
  have := row_of_valid h y; unfold rowN; omega
end Globe
end Go.Proofs.YtfmoabgjaclkpaaGreatDoor

namespace Go.Proofs.YtfmoabgjaclkpaaGreatDoor
open Go.RowKit
def RetAE (w : World) (L : List Int) (e : Ending) (w' : World) : Prop :=
  ∃ B : Nat, e = .returned (.tuple #[.agg #[.slice (some ⟨B, 0, none⟩) 24 24], .int .i64 0]) ∧ w.heap.size ≤ B ∧ RowsAt w' B L ∧ Ext w w'
def orL (ok : Bool) (L : List Int) : List Int := if ok then L else []
def orE (ok : Bool) (c : Int) : Int := if ok then 0 else c
def RetAny (w : World) (ok : Bool) (L : List Int) (c : Int) (e : Ending) (w' : World) : Prop :=
  ∃ (a : Option Addr) (k : Nat), e = .returned (.tuple #[.agg #[.slice a (orL ok L).length k], .int .i64 (orE ok c)]) ∧ IntsAt w' a (orL ok L) ∧ Ext w w' ∧ ∀ ad, a = some ad → w.heap.size ≤ ad.block ∧ ad.block < w'.heap.size
theorem RowsAt.any {w : World} {B : Nat} {L : List Int} (h : RowsAt w B L) : IntsAt w (some ⟨B, 0, none⟩) L := .inr ⟨B, 0, rfl, h.ints⟩
theorem IntsAt.rows {w : World} {a : Option Addr} {l : List Int} (h : IntsAt w a l) (hl : l.length = 24) : ∃ b off, a = some ⟨b, off, none⟩ ∧ ∀ i, i < 24 → w.cell? ⟨b, off + i, none⟩ = some (.int .i64 (Globe.nth l i)) := by
  rcases h with rfl | ⟨b, off, rfl, h⟩
  · simp at hl
  · exact ⟨b, off, rfl, fun i hi => h i (by omega)⟩
theorem IntsAt.lt {w : World} {b off : Nat} {l : List Int} (h : ∀ i, i < 24 → w.cell? ⟨b, off + i, none⟩ = some (.int .i64 (Globe.nth l i))) : b < w.heap.size := World.block_lt_of_cell? w _ (h 0 (by omega))
theorem RowsAt.keep {w w' : World} {B : Nat} {L : List Int} (h : RowsAt w B L) (hc : ∀ o, w'.cell? ⟨B, o, none⟩ = w.cell? ⟨B, o, none⟩) (hf : ∀ o, w'.frozen? ⟨B, o, none⟩ = w.frozen? ⟨B, o, none⟩) : RowsAt w' B L :=
  ⟨h.1, fun i hi => by rw [hc]; exact h.cell hi, fun i hi => by rw [hf]; exact h.free hi⟩
theorem RowsAt.other {w : World} {B : Nat} {L : List Int} (h : RowsAt w B L) {p : Addr} (hp : p.block ≠ B) (v : Value) : RowsAt (w.setCell p v) B L :=
  h.keep (fun o => World.cell?_setCell_other w _ _ _ (fun e => hp (by rw [e]))) (fun o => by simp [go_sem])
def BoxAt (w : World) (b o : Nat) (v : Value) : Prop := w.cell? ⟨b, o, none⟩ = some v ∧ w.frozen? ⟨b, o, none⟩ = false
theorem BoxAt.ext {w w' : World} {b o : Nat} {v : Value} (hE : Ext w w') (h : BoxAt w b o v) : BoxAt w' b o v := ⟨hE.cell h.1, hE.free h.1 h.2⟩
theorem BoxAt.lt {w : World} {b o : Nat} {v : Value} (h : BoxAt w b o v) : b < w.heap.size := World.block_lt_of_cell? w _ h.1
theorem BoxAt.other {w : World} {b o : Nat} {v : Value} (h : BoxAt w b o v) {p : Addr} (hp : p.block ≠ b) (u : Value) : BoxAt (w.setCell p u) b o v :=
  ⟨by rw [World.cell?_setCell_other w _ _ _ (fun e => hp (by rw [e]))]; exact h.1, by simp [go_sem, h.2]⟩
theorem BoxAt.drew {w : World} {b o : Nat} {v : Value} (h : BoxAt w b o v) : BoxAt w.drew b o v := ⟨h.1, h.2⟩
theorem BoxAt.drewN {w : World} {b o : Nat} {v : Value} (h : BoxAt w b o v) (n : Nat) : BoxAt (w.drewN n) b o v := ⟨h.1, h.2⟩
theorem RowsAt.drewN {w : World} {B : Nat} {L : List Int} (h : RowsAt w B L) (n : Nat) : RowsAt (w.drewN n) B L := ⟨h.1, fun _ hi => h.cell hi, fun _ hi => h.free hi⟩
theorem RowsAt.drew {w : World} {B : Nat} {L : List Int} (h : RowsAt w B L) : RowsAt w.drew B L := ⟨h.1, fun _ hi => h.cell hi, fun _ hi => h.free hi⟩
def AA (w : World) (a : Option Addr) (l : List Int) (n : Nat) (v : Bool) : Prop := IntsAt w a l ∧ l.length = n ∧ n ≤ 140737488355328 ∧ Globe.validL l = v
def VA (w : World) (b o : Nat) (l : List Int) : Prop := (∀ i, i < 24 → w.cell? ⟨b, o + i, none⟩ = some (.int .i64 (Globe.nth l i))) ∧ Globe.validL l = true
theorem AA.ext {w w' : World} {a : Option Addr} {l : List Int} {n : Nat} {v : Bool} (h : AA w a l n v) (hE : Ext w w') : AA w' a l n v := ⟨h.1.ext hE, h.2⟩
theorem VA.ext {w w' : World} {b o : Nat} {l : List Int} (h : VA w b o l) (hE : Ext w w') : VA w' b o l := ⟨fun i hi => hE.cell (h.1 i hi), h.2⟩
theorem VA.lt {w : World} {b o : Nat} {l : List Int} (h : VA w b o l) : b < w.heap.size := IntsAt.lt h.1
theorem VA.len {w : World} {b o : Nat} {l : List Int} (h : VA w b o l) : l.length = 24 := Globe.len_of_valid h.2
theorem VA.cell {w : World} {b o : Nat} {l : List Int} (h : VA w b o l) {y : Nat} (hy : y < 24) : w.cell? ⟨b, o + y, none⟩ = some (.int .i64 (Globe.rowN l y : Nat)) := by rw [← Globe.rowN_cast h.2]; exact h.1 y hy
theorem VA.aa {w : World} {b o : Nat} {l : List Int} (h : VA w b o l) : AA w (some ⟨b, o, none⟩) l 24 true :=
  ⟨.inr ⟨b, o, rfl, fun i hi => h.1 i (by rw [← h.len]; exact hi)⟩, h.len, by omega, h.2⟩
theorem AA.va {w : World} {a : Option Addr} {l : List Int} {n : Nat} (h : AA w a l n true) : ∃ b o, a = some ⟨b, o, none⟩ ∧ n = 24 ∧ VA w b o l := by
  have hl := Globe.len_of_valid h.2.2.2
  obtain ⟨b, o, rfl, hr⟩ := h.1.rows hl
  exact ⟨b, o, rfl, by rw [← h.2.1]; exact hl, hr, h.2.2.2⟩
theorem RowsAt.va {w : World} {B : Nat} {L : List Int} (h : RowsAt w B L) (hv : Globe.validL L = true) : VA w B 0 L := ⟨fun i hi => by rw [Nat.zero_add]; exact h.cell hi, hv⟩
def RetV (w : World) (L : List Int) (e : Ending) (w' : World) : Prop :=
  ∃ B k : Nat, e = .returned (.tuple #[.agg #[.slice (some ⟨B, 0, none⟩) 24 k], .int .i64 0]) ∧ w.heap.size ≤ B ∧ RowsAt w' B L ∧ VA w' B 0 L ∧ Ext w w'
theorem RetAE.v {w : World} {L : List Int} {e : Ending} {w' : World} (h : RetAE w L e w') (hv : Globe.validL L = true) : RetV w L e w' := by
  obtain ⟨B, rfl, hB, hr, hE⟩ := h
  exact ⟨B, 24, rfl, hB, hr, hr.va hv, hE⟩
theorem RetV.any {w : World} {L : List Int} {c : Int} {e : Ending} {w' : World} (h : RetV w L e w') : RetAny w true L c e w' := by
  obtain ⟨B, k, rfl, hB, hr, hv, hE⟩ := h
  exact ⟨some ⟨B, 0, none⟩, k, by show _ = Ending.returned (.tuple #[.agg #[.slice _ L.length _], _]); rw [hr.len]; rfl, .inr ⟨B, 0, rfl, hr.ints⟩, hE, fun ad e => by cases e; exact ⟨hB, hr.lt⟩⟩
end Go.Proofs.YtfmoabgjaclkpaaGreatDoor

namespace Go.Proofs.YtfmoabgjaclkpaaGreatDoor
open Go.RowKit
def look : List (Nat × Value) → (Nat → Value) → Nat → Value
  | [], f, k => f k
  | (d, v) :: ws, f, k => if k = d then v else look ws f k
theorem look_cons (d : Nat) (v : Value) (ws : List (Nat × Value)) (f : Nat → Value) (k : Nat) : look ((d, v) :: ws) f k = if k = d then v else look ws f k := rfl
def base (L : List Value) (t : Nat) : Value := L.toArray.getD t undef
def evalW (L : List Value) (ws : List (Nat × Value)) : Operand → Value
  | .tmp t => look ws (base L) t
  | o => Act.eval ⟨#[], []⟩ o
def setAll (L : List Value) : List (Nat × Value) → List Value
  | [] => L
  | (d, v) :: ws => (setAll L ws).set d v
theorem setAll_len (L : List Value) : ∀ ws, (setAll L ws).length = L.length
  | [] => rfl
  | (d, v) :: ws => by rw [setAll, List.length_set, setAll_len L ws]
theorem setAll_get (L : List Value) : ∀ ws : List (Nat × Value), (∀ p ∈ ws, p.1 < L.length) → ∀ t, (setAll L ws).toArray.getD t undef = look ws (base L) t
  | [], _, t => rfl
  | (d, v) :: ws, h, t => by
    have ih := setAll_get L ws (fun p hp => h p (List.mem_cons_of_mem _ hp)) t
    have hd : d < (setAll L ws).length := by rw [setAll_len]; exact h (d, v) (by simp)
    rw [look_cons, ← ih, setAll]
    by_cases e : t = d
    · subst e; simp [hd]
    · have e' : d ≠ t := fun c => e c.symm
      simp [e, List.getElem?_set_ne e']
def lset (m : Nat) : List Nat → Array Bool
  | [] => Array.replicate m false
  | i :: r => (lset m r).setIfInBounds i true
theorem lset_size (m : Nat) : ∀ l, (lset m l).size = m
  | [] => by simp [lset]
  | i :: r => by simp [lset, lset_size m r]
theorem lset_get (m : Nat) (b : Bool) : ∀ (l : List Nat) (j : Nat), (lset m l).getD j b = if j < m then l.contains j else b
  | [], j => by by_cases h : j < m <;> simp [lset, h]
  | i :: r, j => by
    have ih := lset_get m b r j
    have hs := lset_size m r
    by_cases h : j < m
    · rw [if_pos h] at ih ⊢
      by_cases e : i = j
      · subst e; simp [lset, hs, h]
      · have e2 : j ≠ i := fun c => e c.symm
        simp only [lset, Array.getD_eq_getD_getElem?, Array.getElem?_setIfInBounds_ne e, List.contains_cons] at ih ⊢
        rw [ih]
        have : (j == i) = false := by simp [e2]
        rw [this, Bool.false_or]
    · rw [if_neg h] at ih ⊢
      have h1 : m ≤ j := by omega
      simp [lset, hs, h1]
abbrev Row := Option Nat × List Nat × List Nat
def waits (o : Oper) : List Nat := (o.after.toList.filter (Region.binds .any)).map (·.on)
def rowOf (ops : Array Oper) (o : Oper) : Row := (o.dst, o.looksAt ops, waits o)
def tableR (ops : Array Oper) : List Row := ops.toList.map (rowOf ops)
def ordered (x y : Row × Nat) : Bool := x.1.2.2.contains y.2 || y.1.2.2.contains x.2
def fits (x y : Row × Nat) : Bool :=
  (match x.1.1 with
   | some d => (!(y.1.2.1.contains d) || ordered x y) && (!(y.1.1 == some d) || ordered x y)
   | none => true) &&
  (match y.1.1 with
   | some d => !(x.1.2.1.contains d) || ordered x y
   | none => true)
def fitsAll (x : Row × Nat) : List (Row × Nat) → Bool
  | [] => true
  | y :: r => fits x y && fitsAll x r
def goodL : List (Row × Nat) → Bool
  | [] => true
  | x :: r => fitsAll x r && goodL r
def numbered : List Row → Nat → List (Row × Nat)
  | [], _ => []
  | x :: r, k => (x, k) :: numbered r (k + 1)
def inRB (n : Nat) : List Row → Bool
  | [] => true
  | x :: r => (match x.1 with | some d => Nat.blt d n | none => true) && inRB n r
def inA (m : Nat) : List Row → Bool
  | [] => true
  | x :: r => x.2.2.all (fun k => Nat.blt k m) && inA m r
def goodT (n m : Nat) (T : List Row) : Bool := goodL (numbered T 0) && (inRB n T && inA m T)
theorem fits_comm (x y : Row × Nat) (h : fits x y = true) : fits y x = true := by
  obtain ⟨⟨dx, lx, ax⟩, i⟩ := x
  obtain ⟨⟨dy, ly, ay⟩, j⟩ := y
  have e : ∀ a b : Bool, (a || b) = (b || a) := fun a b => Bool.or_comm a b
  cases dx <;> cases dy <;> simp only [fits, ordered, Bool.and_true, Bool.true_and] at h ⊢
  · rw [e (ay.contains i)]; simpa using h
  · rw [e (ay.contains i)]; simpa using h
  · rename_i d d'
    rw [e (ay.contains i)]
    simp only [Bool.and_eq_true] at h ⊢
    obtain ⟨⟨h1, h2⟩, h3⟩ := h
    refine ⟨⟨h3, ?_⟩, h1⟩
    by_cases c : d = d'
    · subst c; simpa using h2
    · have : (some d == some d') = false := by simp [c]
      rw [this]; rfl
theorem fitsAll_mem {x y : Row × Nat} : ∀ {l}, fitsAll x l = true → y ∈ l → fits x y = true
  | z :: r, h, hy => by
    simp only [fitsAll, Bool.and_eq_true] at h
    rcases List.mem_cons.1 hy with rfl | hy
    · exact h.1
    · exact fitsAll_mem h.2 hy
theorem goodL_mem {x y : Row × Nat} : ∀ {l}, goodL l = true → x ∈ l → y ∈ l → x ≠ y → fits x y = true
  | z :: r, h, hx, hy, hne => by
    simp only [goodL, Bool.and_eq_true] at h
    rcases List.mem_cons.1 hx with e1 | h1
    · rcases List.mem_cons.1 hy with e2 | h2
      · exact absurd (e1.trans e2.symm) hne
      · rw [e1]; exact fitsAll_mem h.1 h2
    · rcases List.mem_cons.1 hy with e2 | h2
      · rw [e2]; exact fits_comm _ _ (fitsAll_mem h.1 h1)
      · exact goodL_mem h.2 h1 h2 hne
theorem mem_numbered : ∀ {T : List Row} {k i : Nat} {x : Row}, T[i]? = some x → (x, k + i) ∈ numbered T k
  | y :: r, k, 0, x, h => by simp at h; subst h; simp [numbered]
  | y :: r, k, i + 1, x, h => by
    simp at h
    have := mem_numbered (k := k + 1) h
    rw [numbered, show k + (i + 1) = k + 1 + i by omega]
    exact List.mem_cons_of_mem _ this
theorem inRB_get {n : Nat} : ∀ {T : List Row} {i : Nat} {x : Row} {d : Nat}, inRB n T = true → T[i]? = some x → x.1 = some d → d < n
  | y :: r, 0, x, d, h, hx, hd => by
    simp at hx; subst hx
    simp only [inRB, Bool.and_eq_true, hd] at h
    exact Nat.blt_eq.mp h.1
  | y :: r, i + 1, x, d, h, hx, hd => by
    simp only [inRB, Bool.and_eq_true] at h
    exact inRB_get h.2 (by simpa using hx) hd
theorem inA_get {m : Nat} : ∀ {T : List Row} {i : Nat} {x : Row}, inA m T = true → T[i]? = some x → ∀ k ∈ x.2.2, k < m
  | y :: r, 0, x, h, hx => by
    simp at hx; subst hx
    simp only [inA, Bool.and_eq_true] at h
    exact fun k hk => Nat.blt_eq.mp (List.all_eq_true.1 h.1 k hk)
  | y :: r, i + 1, x, h, hx => by
    simp only [inA, Bool.and_eq_true] at h
    exact inA_get h.2 (by simpa using hx)
section
variable {P : Program} {ops : Array Oper} {Q : Exit → Act → World → Prop} {S : World → Prop} {T : List Row}
theorem table_get {i : Nat} {oi : Oper} (ht : tableR ops = T) (hi : ops[i]? = some oi) : T[i]? = some (rowOf ops oi) := by
  rw [← ht]; simp [tableR, hi]
theorem table_len (ht : tableR ops = T) : T.length = ops.size := by rw [← ht]; simp [tableR]
def readyT (T : List Row) (done : List Nat) (i : Nat) : Bool := !done.contains i && match T.drop i with | (_, _, a) :: _ => a.all (fun k => done.contains k) | [] => false
theorem lt_of_get {α : Type} {l : Array α} {i : Nat} {x : α} (h : l[i]? = some x) : i < l.size := by
  rcases Nat.lt_or_ge i l.size with h1 | h1
  · exact h1
  · rw [Array.getElem?_eq_none h1] at h; cases h
theorem drop_get {α : Type} {l : List α} {i : Nat} {x : α} (h : l[i]? = some x) : ∃ r, l.drop i = x :: r := by
  have hl : i < l.length := by
    rcases Nat.lt_or_ge i l.length with h1 | h1
    · exact h1
    · rw [List.getElem?_eq_none h1] at h; cases h
  rw [List.getElem?_eq_getElem hl] at h
  exact ⟨_, by rw [List.drop_eq_getElem_cons hl]; simp at h; rw [h]⟩
theorem mem_waits {o : Oper} {e : Edge} (he : e ∈ o.after) (hb : Region.binds .any e = true) : e.on ∈ waits o := by
  unfold waits
  rw [List.mem_map]
  exact ⟨e, by rw [List.mem_filter]; exact ⟨by simpa using he, hb⟩, rfl⟩
theorem waits_mem {o : Oper} {k : Nat} (h : k ∈ waits o) : ∃ e ∈ o.after, Region.binds .any e = true ∧ e.on = k := by
  unfold waits at h
  rw [List.mem_map] at h
  obtain ⟨e, h1, h2⟩ := h
  rw [List.mem_filter] at h1
  exact ⟨e, by simpa using h1.1, h1.2, h2⟩
theorem ready_iff {done : List Nat} {i : Nat} {oi : Oper} (hi : ops[i]? = some oi) (hin : ∀ k ∈ waits oi, k < ops.size) :
    i ∈ Region.ready .any ops (lset ops.size done) ↔ done.contains i = false ∧ ∀ k ∈ waits oi, done.contains k = true := by
  have hlt := lt_of_get hi
  rw [mem_ready, lset_get, if_pos hlt]
  constructor
  · rintro ⟨h1, o, ho, h2⟩
    rw [hi] at ho; cases ho
    refine ⟨h1, fun k hk => ?_⟩
    obtain ⟨e, he, hb, rfl⟩ := waits_mem hk
    have := h2 e he hb
    rwa [lset_get, if_pos (hin _ hk)] at this
  · rintro ⟨h1, h2⟩
    refine ⟨h1, oi, hi, fun e he hb => ?_⟩
    rw [lset_get, if_pos (hin _ (mem_waits he hb))]
    exact h2 _ (mem_waits he hb)
theorem readyT_mem {n : Nat} {done : List Nat} {i : Nat} {oi : Oper} (ht : tableR ops = T) (hg : goodT n ops.size T = true) (hi : ops[i]? = some oi) (h : readyT T done i = true) :
    i ∈ Region.ready .any ops (lset ops.size done) := by
  have hT := table_get ht hi
  simp only [goodT, Bool.and_eq_true] at hg
  rw [ready_iff hi (inA_get hg.2.2 hT)]
  obtain ⟨r, hr⟩ := drop_get hT
  unfold readyT at h
  rw [hr] at h
  simp only [rowOf, Bool.and_eq_true] at h
  exact ⟨by simpa using h.1, List.all_eq_true.1 h.2⟩
theorem apart_of_good {n : Nat} {done : List Nat} {i : Nat} {oi : Oper} (ht : tableR ops = T) (hg : goodT n ops.size T = true) (hi : ops[i]? = some oi) (hr : readyT T done i = true)
    (j : Nat) (oj : Oper) (hj : ops[j]? = some oj) (hne : j ≠ i) (hun : (lset ops.size done).getD j true = false) (hno : ∀ e ∈ oj.after, Region.binds .any e = true → e.on ≠ i) : oi.apart ops oj = true := by
  have hmi := readyT_mem ht hg hi hr
  have hTi := table_get ht hi
  have hTj := table_get ht hj
  simp only [goodT, Bool.and_eq_true] at hg
  rw [ready_iff hi (inA_get hg.2.2 hTi)] at hmi
  rw [lset_get, if_pos (lt_of_get hj)] at hun
  have hf := goodL_mem hg.1 (mem_numbered (k := 0) hTi) (mem_numbered (k := 0) hTj) (by
    intro c
    have := congrArg Prod.snd c
    simp at this
    exact hne this.symm)
  have hord : ordered (rowOf ops oi, 0 + i) (rowOf ops oj, 0 + j) = false := by
    simp only [ordered, rowOf, Nat.zero_add, Bool.or_eq_false_iff]
    constructor
    · rcases h : (waits oi).contains j with _ | _
      · rfl
      · have := hmi.2 j (by simpa using h)
        rw [hun] at this; cases this
    · rcases h : (waits oj).contains i with _ | _
      · rfl
      · obtain ⟨e, he, hb, hk⟩ := waits_mem (o := oj) (k := i) (by simpa using h)
        exact absurd hk (hno e he hb)
  unfold fits at hf
  rw [hord] at hf
  simp only [rowOf, Bool.or_false] at hf
  unfold Oper.apart
  cases h1 : oi.dst <;> cases h2 : oj.dst <;> rw [h1, h2] at hf <;> first | rfl | simpa [bne] using hf
def W (P : Program) (ops : Array Oper) (Q : Exit → Act → World → Prop) (S : World → Prop) (L : List Value) (ds : List Deferred) (fuel : Nat) (done : List Nat) (ws : List (Nat × Value)) (w : World) : Prop :=
  (∀ p ∈ ws, p.1 < L.length) → wpAnyH P .any ops Q S fuel (lset ops.size done) ⟨(setAll L ws).toArray, ds⟩ w
theorem eval_W {L : List Value} {ws : List (Nat × Value)} (h : ∀ p ∈ ws, p.1 < L.length) (ds : List Deferred) : Act.eval ⟨(setAll L ws).toArray, ds⟩ = evalW L ws := by
  funext o
  cases o with
  | tmp t => exact setAll_get L ws h t
  | const v => rfl
  | global g => rfl
  | func f => rfl
def putW : Option Nat → Value → List (Nat × Value) → List (Nat × Value)
  | some d, v, ws => (d, v) :: ws
  | none, _, ws => ws
theorem put_W (L : List Value) (ws : List (Nat × Value)) (ds : List Deferred) (d : Option Nat) (v : Value) : Act.put ⟨(setAll L ws).toArray, ds⟩ d v = ⟨(setAll L (putW d v ws)).toArray, ds⟩ := by
  cases d with
  | none => rfl
  | some d => simp [Act.put, putW, setAll]
theorem putW_lt {L : List Value} {ws : List (Nat × Value)} {d : Option Nat} {v : Value} (h : ∀ p ∈ ws, p.1 < L.length) (hd : ∀ k, d = some k → k < L.length) : ∀ p ∈ putW d v ws, p.1 < L.length := by
  cases d with
  | none => exact h
  | some d =>
    intro p hp
    rcases List.mem_cons.1 hp with rfl | hp
    · exact hd _ rfl
    · exact h p hp
def wantedW (T : List Row) (L : List Value) (ws : List (Nat × Value)) : Option (Nat × Bool) → Bool
  | none => true
  | some (g, want) => match T.drop g with
    | (some d, _, _) :: _ => (match look ws (base L) d with | .bool b => b == want | _ => false)
    | _ => false
theorem wanted_W {n : Nat} {L : List Value} {ws : List (Nat × Value)} {o : Oper} {b : Bool} (ds : List Deferred) (ht : tableR ops = T) (hg : goodT L.length n T = true) (h : ∀ p ∈ ws, p.1 < L.length) (hw : wantedW T L ws o.guard = b) :
    Region.wanted o (yielded ops (⟨(setAll L ws).toArray, ds⟩ : Act).tmps) = b := by
  subst hw
  unfold Region.wanted wantedW
  cases hgd : o.guard with
  | none => rfl
  | some p =>
    obtain ⟨g, want⟩ := p
    simp only [yielded]
    cases hj : ops[g]? with
    | none =>
      have : T.drop g = [] := by
        rw [List.drop_eq_nil_iff, table_len ht]
        rcases Nat.lt_or_ge g ops.size with h1 | h1
        · rw [Array.getElem?_eq_getElem h1] at hj; cases hj
        · exact h1
      rw [this]; rfl
    | some og =>
      have hT := table_get ht hj
      obtain ⟨r, hr⟩ := drop_get hT
      rw [hr]
      simp only [rowOf, Option.bind_some]
      cases hd : og.dst with
      | none => rfl
      | some d =>
        simp only [goodT, Bool.and_eq_true] at hg
        have hlt : d < L.length := inRB_get hg.2.1 hT hd
        have hget := setAll_get L ws h d
        have hlt2 : d < (setAll L ws).toArray.size := by simp [setAll_len, hlt]
        simp only [Array.getD, hlt2, dif_pos] at hget
        simp only [Option.bind_some]
        rw [Array.getElem?_eq_getElem hlt2]
        have e : (setAll L ws).toArray[d] = look ws (base L) d := hget
        rw [e]
        cases look ws (base L) d <;> rfl
section
variable {L : List Value} {ds : List Deferred} {fuel : Nat} {done : List Nat} {ws : List (Nat × Value)} {w : World}
structure Reg (P : Program) (ops0 ops : Array Oper) (Q : Exit → Act → World → Prop) (L : List Value) (T : List Row) : Prop where
  ops_eq : ops = ops0
  tab : tableR ops = T
  good : goodT L.length ops.size T = true
  nosel : Region.noSelect ops = true
  calm : ∀ c d v a w, Q (.panic c) (Act.put a d v) w → Q (.panic c) a w
variable {ops0 : Array Oper}
theorem dst_lt (hR : Reg P ops0 ops Q L T) {i : Nat} {oi : Oper} (hi : ops[i]? = some oi) : ∀ k, oi.dst = some k → k < L.length := fun k hk => by
  have := hR.good
  simp only [goodT, Bool.and_eq_true] at this
  exact inRB_get this.2.1 (table_get hR.tab hi) hk
theorem op_at (hR : Reg P ops0 ops Q L T) {i : Nat} {oi : Oper} {r : List Oper} (hi : ops0.toList.drop i = oi :: r) : ops[i]? = some oi := by
  rw [hR.ops_eq, ← Array.getElem?_toList, ← Nat.add_zero i, ← List.getElem?_drop, hi]; rfl
theorem wg_take (i : Nat) {oi : Oper} {r : List Oper} {v : Value} (hR : Reg P ops0 ops Q L T) (hi : ops0.toList.drop i = oi :: r) (hr : readyT T done i = true)
    (hw : wantedW T L ws oi.guard = true) (hy : ∀ w, S w → (execOp (evalW L ws) oi).run P w = .ok (.value v) w) (hS : S w)
    (h : W P ops Q S L ds fuel (i :: done) (putW oi.dst v ws) w) : W P ops Q S L ds (fuel + 1) done ws w := fun hb => by
  have ho := op_at hR hi
  refine wpAnyH_first (v := v) ho (Region.noSelect_spec hR.nosel) (fun c a w => hR.calm c _ _ a w) fuel _ _ w (apart_of_good hR.tab hR.good ho hr) (readyT_mem hR.tab hR.good ho hr) ?_ hS ?_
  · exact .inl ⟨wanted_W ds hR.tab hR.good hb hw, fun w hw => by rw [eval_W hb]; exact hy w hw⟩
  · rw [put_W]; exact h (putW_lt hb (dst_lt hR ho))
theorem wg_skip (i : Nat) {oi : Oper} {r : List Oper} (hR : Reg P ops0 ops Q L T) (hi : ops0.toList.drop i = oi :: r) (hr : readyT T done i = true)
    (hw : wantedW T L ws oi.guard = false) (hS : S w)
    (h : W P ops Q S L ds fuel (i :: done) (putW oi.dst undef ws) w) : W P ops Q S L ds (fuel + 1) done ws w := fun hb => by
  have ho := op_at hR hi
  refine wpAnyH_first (v := undef) ho (Region.noSelect_spec hR.nosel) (fun c a w => hR.calm c _ _ a w) fuel _ _ w (apart_of_good hR.tab hR.good ho hr) (readyT_mem hR.tab hR.good ho hr) ?_ hS ?_
  · exact .inr ⟨wanted_W ds hR.tab hR.good hb hw, rfl⟩
  · rw [put_W]; exact h (putW_lt hb (dst_lt hR ho))
def StepW (P : Program) (S : World → Prop) (L : List Value) (ws : List (Nat × Value)) (oi : Oper) (w : World) (N : Value → World → Prop) : Prop :=
  (∃ v w', (execOp (evalW L ws) oi).run P w = .ok (.value v) w' ∧ S w' ∧ N v w') ∨ (∃ w', (execOp (evalW L ws) oi).run P w = .ok .skip w' ∧ S w' ∧ N undef w') ∨
  (∃ f args, (execOp (evalW L ws) oi).run P w = .ok (.enter f args) w ∧ Calls P f args w fun e w' => ∃ v, e = .returned v ∧ S w' ∧ N v w')
theorem StepW.wp {oi : Oper} {N : Value → World → Prop} {a : Act} {K : Act → World → Prop} (h : StepW P S L ws oi w N) (he : a.eval = evalW L ws) (hK : ∀ v w', S w' → N v w' → K (a.put oi.dst v) w') : Oper.wp P oi a w K Q := by
  unfold Oper.wp
  rw [he]
  rcases h with ⟨v, w', h1, h2, h3⟩ | ⟨w', h1, h2, h3⟩ | ⟨f, args, h1, h2⟩
  · rw [h1, Oper.upon_value]; exact hK v w' h2 h3
  · rw [h1, Oper.upon_skip]; exact hK undef w' h2 h3
  · rw [h1, Oper.upon_enter]
    exact h2.mono fun e w' ⟨v, he, hs, hn⟩ => by subst he; exact hK v w' hs hn
def upT (done : List Nat) : List (Row × Nat) → List Nat
  | [] => []
  | (x, k) :: r => if !done.contains k && x.2.2.all (fun j => done.contains j) then k :: upT done r else upT done r
theorem mem_upT {done : List Nat} {x : Row} {k : Nat} (h1 : done.contains k = false) (h2 : ∀ j ∈ x.2.2, done.contains j = true) : ∀ {l}, (x, k) ∈ l → k ∈ upT done l
  | (y, j) :: r, h => by
    rcases List.mem_cons.1 h with e | h
    · cases e
      unfold upT
      rw [if_pos (by simp only [h1, Bool.not_false, Bool.true_and]; exact List.all_eq_true.2 h2)]
      exact List.mem_cons_self
    · have ih := mem_upT h1 h2 h
      unfold upT
      split
      · exact List.mem_cons_of_mem _ ih
      · exact ih
theorem ready_up (hR : Reg P ops0 ops Q L T) {j : Nat} (h : j ∈ Region.ready .any ops (lset ops.size done)) : j ∈ upT done (numbered T 0) := by
  obtain ⟨_, oj, hj, _⟩ := mem_ready.1 h
  have hT := table_get hR.tab hj
  have hg := hR.good
  simp only [goodT, Bool.and_eq_true] at hg
  rw [ready_iff hj (inA_get hg.2.2 hT)] at h
  have hm := mem_numbered (k := 0) hT
  rw [Nat.zero_add] at hm
  exact mem_upT (x := rowOf ops oj) h.1 h.2 hm
theorem wg_step (i : Nat) {oi : Oper} {r : List Oper} (hR : Reg P ops0 ops Q L T) (hi : ops0.toList.drop i = oi :: r) (hr : upT done (numbered T 0) = [i])
    (hw : wantedW T L ws oi.guard = true)
    (h : StepW P S L ws oi w fun v w' => S w' → W P ops Q S L ds fuel (i :: done) (putW oi.dst v ws) w') (hr2 : readyT T done i = true) : W P ops Q S L ds (fuel + 1) done ws w := fun hb => by
  have ho := op_at hR hi
  refine ⟨fun h0 => ?_, fun j hj => ?_⟩
  · have := readyT_mem hR.tab hR.good ho hr2
    rw [h0] at this; cases this
  · have := ready_up hR hj
    rw [hr] at this
    obtain rfl := List.mem_singleton.1 this
    refine wpOp_step ho fun K' hK => ?_
    rw [if_pos (wanted_W ds hR.tab hR.good hb hw)]
    exact h.wp (eval_W hb ds) fun v w' hs hn => hK _ _ ⟨hs, by rw [put_W]; exact hn hs (putW_lt hb (dst_lt hR ho))⟩
theorem wg_two (i j : Nat) {oi oj : Oper} {r s : List Oper} (hR : Reg P ops0 ops Q L T) (hi : ops0.toList.drop i = oi :: r) (hj : ops0.toList.drop j = oj :: s) (hr : upT done (numbered T 0) = [i, j])
    (hwi : wantedW T L ws oi.guard = true) (hwj : wantedW T L ws oj.guard = true) (hr2 : readyT T done i = true)
    (h1 : StepW P S L ws oi w fun v w' => S w' → W P ops Q S L ds fuel (i :: done) (putW oi.dst v ws) w')
    (h2 : StepW P S L ws oj w fun v w' => S w' → W P ops Q S L ds fuel (j :: done) (putW oj.dst v ws) w') : W P ops Q S L ds (fuel + 1) done ws w := fun hb => by
  have ho := op_at hR hi
  have ho2 := op_at hR hj
  refine ⟨fun h0 => ?_, fun k hk => ?_⟩
  · have := readyT_mem hR.tab hR.good ho hr2
    rw [h0] at this; cases this
  · have := ready_up hR hk
    rw [hr] at this
    rcases List.mem_cons.1 this with rfl | this
    · refine wpOp_step ho fun K' hK => ?_
      rw [if_pos (wanted_W ds hR.tab hR.good hb hwi)]
      exact h1.wp (eval_W hb ds) fun v w' hs hn => hK _ _ ⟨hs, by rw [put_W]; exact hn hs (putW_lt hb (dst_lt hR ho))⟩
    · obtain rfl := List.mem_singleton.1 this
      refine wpOp_step ho2 fun K' hK => ?_
      rw [if_pos (wanted_W ds hR.tab hR.good hb hwj)]
      exact h2.wp (eval_W hb ds) fun v w' hs hn => hK _ _ ⟨hs, by rw [put_W]; exact hn hs (putW_lt hb (dst_lt hR ho2))⟩
def lookO : List (Nat × Value) → Nat → Option Value
  | [], _ => none
  | (d, v) :: ws, k => if k = d then some v else lookO ws k
theorem setAll_get? (L : List Value) : ∀ (ws : List (Nat × Value)) (t : Nat), (setAll L ws)[t]? = if t < L.length then (lookO ws t).or (L[t]?) else none
  | [], t => by by_cases h : t < L.length <;> simp [setAll, lookO, h]
  | (d, v) :: ws, t => by
    have ih := setAll_get? L ws t
    rw [setAll, List.getElem?_set, lookO, setAll_len]
    by_cases e : t = d
    · subst e
      by_cases h : t < L.length <;> simp [h]
    · have e' : d ≠ t := fun c => e c.symm
      rw [if_neg e', ih, if_neg e]
def Only (O : Nat) (w X : World) : Prop := ∃ j v, X = w.setCell ⟨O, j, none⟩ v
theorem Only.ext {O : Nat} {a w X : World} (h : Only O w X) (hE : Ext a w) (hO : a.heap.size ≤ O) : Ext a X := by
  obtain ⟨j, v, rfl⟩ := h; exact hE.setCell hO v
theorem Only.size {O : Nat} {w X : World} (h : Only O w X) : X.heap.size = w.heap.size := by
  obtain ⟨j, v, rfl⟩ := h; simp
theorem Only.va {O : Nat} {w X : World} (h : Only O w X) {b o : Nat} {l : List Int} (hb : O ≠ b) (hv : VA w b o l) : VA X b o l := by
  obtain ⟨j, v, rfl⟩ := h
  exact ⟨fun i hi => by rw [World.cell?_setCell_other w _ _ _ (fun e => hb (congrArg Addr.block e))]; exact hv.1 i hi, hv.2⟩
theorem Only.box {O : Nat} {w X : World} (h : Only O w X) {b o : Nat} {u : Value} (hb : O ≠ b) (hv : BoxAt w b o u) : BoxAt X b o u := by
  obtain ⟨j, v, rfl⟩ := h; exact hv.other (p := ⟨O, j, none⟩) hb v
theorem Only.rows {O : Nat} {w X : World} (h : Only O w X) {b : Nat} {l : List Int} (hb : O ≠ b) (hv : RowsAt w b l) : RowsAt X b l := by
  obtain ⟨j, v, rfl⟩ := h; exact hv.other (p := ⟨O, j, none⟩) hb v
theorem Only.cell {O : Nat} {w X : World} (h : Only O w X) {p : Addr} {u : Value} (hb : O ≠ p.block) (hv : w.cell? p = some u) : X.cell? p = some u := by
  obtain ⟨j, v, rfl⟩ := h
  rw [World.cell?_setCell_other w _ _ _ (fun e => hb (congrArg Addr.block e))]; exact hv
end
end
end Go.Proofs.YtfmoabgjaclkpaaGreatDoor

namespace Go.Proofs.YtfmoabgjaclkpaaGreatDoor
open Go.RowKit
section
variable {P : Program} {n : Nat} {L : List Value} {ws : List (Nat × Value)} {w : World} {Q : Exit → Act → World → Prop}
def Bd (n : Nat) (L : List Value) (ws : List (Nat × Value)) : Prop := L.length = n ∧ ∀ p ∈ ws, p.1 < n
theorem Bd.lt (h : Bd n L ws) : ∀ p ∈ ws, p.1 < L.length := fun p hp => by rw [h.1]; exact h.2 p hp
theorem Bd.put (h : Bd n L ws) {d : Nat} {v : Value} (hd : Nat.blt d n = true) : Bd n L ((d, v) :: ws) :=
  ⟨h.1, fun p hp => by rcases List.mem_cons.1 hp with rfl | hp; exact Nat.blt_eq.mp hd; exact h.2 p hp⟩
structure CW (P : Program) (c : Code) (Q : Exit → Act → World → Prop) (n : Nat) (L : List Value) (ws : List (Nat × Value)) (w : World) : Prop where
  out : Bd n L ws → c.wp P Q ⟨(setAll L ws).toArray, []⟩ w
structure QW (Q : Exit → Act → World → Prop) (e : Exit) (n : Nat) (L : List Value) (ws : List (Nat × Value)) (w : World) : Prop where
  out : Bd n L ws → Q e ⟨(setAll L ws).toArray, []⟩ w
structure PL (P : Program) (ops rest : List Oper) (Q : Exit → Act → World → Prop) (n : Nat) (L : List Value) (ws : List (Nat × Value)) (w : World) : Prop where
  out : Bd n L ws → wpList P ops.toArray Q rest ⟨(setAll L ws).toArray, []⟩ w
structure WD (P : Program) (ops : Array Oper) (Q : Exit → Act → World → Prop) (S : World → Prop) (L : List Value) (fuel : Nat) (done : List Nat) (ws : List (Nat × Value)) (w : World) : Prop where
  out : W P ops Q S L [] fuel done ws w
theorem calls_cw {f : FuncId} {fn : Func} {c : Code} {av : List Value} {R : Ending → World → Prop} (n : Nat) (ws : List (Nat × Value)) (hf : P.funcs[f]? = some fn) (hb : fn.body = some c) (hn : fn.ntmps = n)
    (he : av ++ List.replicate (n - av.length) undef = setAll (List.replicate n undef) ws) (hl : ws.all (fun p => Nat.blt p.1 n) = true)
    (h : ∀ L, CW P c (bodyPost P fn R) n L ws w) : Calls P f av.toArray w R := by
  refine calls_of_wp hf hb ?_
  have e : (av.toArray ++ Array.replicate (fn.ntmps - av.toArray.size) undef : Array Value) = (setAll (List.replicate n undef) ws).toArray := by
    rw [hn, ← he]; simp
  rw [e]
  exact (h _).out ⟨List.length_replicate, fun p hp => Nat.blt_eq.mp (List.all_eq_true.1 hl p hp)⟩
theorem cw_seq {x y : Code} (h : CW P x (Exit.then (y.wp P Q) Q) n L ws w) : CW P (.seq x y) Q n L ws w := ⟨fun b => wp_seq (h.out b)⟩
theorem cw_block {id : Nat} {c : Code} (h : CW P c (Exit.inBlock id Q) n L ws w) : CW P (.block id c) Q n L ws w := ⟨fun b => wp_block (h.out b)⟩
theorem cw_skip (h : QW Q .normal n L ws w) : CW P .skip Q n L ws w := ⟨fun b => wp_skip (h.out b)⟩
theorem cw_exit {id : Nat} (h : QW Q (.exit id) n L ws w) : CW P (.exit id) Q n L ws w := ⟨fun b => wp_exit (h.out b)⟩
theorem cw_ret (h : QW Q .ret n L ws w) : CW P .ret Q n L ws w := ⟨fun b => wp_ret (h.out b)⟩
theorem cw_plain {id : Nat} {l : List Oper} (h : PL P l l Q n L ws w) : CW P (.region id l.toArray false) Q n L ws w := ⟨fun b => wp_region_lit (h.out b)⟩
theorem cw_t {c : Operand} {x y : Code} (hc : evalW L ws c = .bool true) (h : CW P x Q n L ws w) : CW P (.cond c x y) Q n L ws w := ⟨fun b => wp_cond_true (by rw [eval_W b.lt]; exact hc) (h.out b)⟩
theorem cw_f {c : Operand} {x y : Code} (hc : evalW L ws c = .bool false) (h : CW P y Q n L ws w) : CW P (.cond c x y) Q n L ws w := ⟨fun b => wp_cond_false (by rw [eval_W b.lt]; exact hc) (h.out b)⟩
theorem qw_then {y : Code} (h : CW P y Q n L ws w) : QW (Exit.then (y.wp P Q) Q) .normal n L ws w := ⟨h.out⟩
theorem qw_then_ret {K : Act → World → Prop} (h : QW Q .ret n L ws w) : QW (Exit.then K Q) .ret n L ws w := ⟨h.out⟩
theorem qw_then_exit {K : Act → World → Prop} {id : Nat} (h : QW Q (.exit id) n L ws w) : QW (Exit.then K Q) (.exit id) n L ws w := ⟨h.out⟩
theorem qw_block {id : Nat} (h : QW Q .normal n L ws w) : QW (Exit.inBlock id Q) .normal n L ws w := ⟨h.out⟩
theorem qw_block_ret {id : Nat} (h : QW Q .ret n L ws w) : QW (Exit.inBlock id Q) .ret n L ws w := ⟨h.out⟩
theorem qw_block_out {id : Nat} (h : QW Q .normal n L ws w) : QW (Exit.inBlock id Q) (.exit id) n L ws w := ⟨fun b => by
  show (if id = id then _ else _)
  rw [if_pos rfl]; exact h.out b⟩
theorem qw_block_on {id id' : Nat} (hne : id' ≠ id) (h : QW Q (.exit id') n L ws w) : QW (Exit.inBlock id Q) (.exit id') n L ws w := ⟨fun b => by
  show (if id' = id then _ else _)
  rw [if_neg hne]; exact h.out b⟩
def ResV (P : Program) (ev : Operand → Value) (w : World) : List ResultVar → List Value → Prop
  | [], [] => True
  | .tmp t :: rs, v :: vs => ev (.tmp t) = v ∧ ResV P ev w rs vs
  | .cell a t :: rs, v :: vs => (∃ ad, ev (.tmp a) = .pointer (some ad) ∧ (loadVar t ad).run P w = .ok v w) ∧ ResV P ev w rs vs
  | _, _ => False
def resOf : List Value → Value
  | [v] => v
  | vs => .tuple vs.toArray
theorem res_map {ev : Operand → Value} {g : ResultVar → Sem Value} (h1 : ∀ t, g (.tmp t) = pure (ev (.tmp t))) (h2 : ∀ b t, g (.cell b t) = do loadVar t (← asAddr (ev (.tmp b)))) :
    ∀ {rs : List ResultVar} {vs : List Value}, ResV P ev w rs vs → (rs.mapM g).run P w = .ok vs w
  | [], [], _ => by simp [go_sem]
  | .tmp t :: rs, v :: vs, h => by
    have ih := res_map h1 h2 h.2
    rw [List.mapM_cons, h1, h.1]
    simp [ih, Result.andThen]
  | .cell b t :: rs, v :: vs, h => by
    have ih := res_map h1 h2 h.2
    obtain ⟨ad, e1, e2⟩ := h.1
    rw [List.mapM_cons, h2, e1]
    simp [ih, asAddr, e2, Result.andThen]
theorem results_g (fn : Func) (tmps : Array Value) : ∃ g : ResultVar → Sem Value, (∀ t, g (.tmp t) = pure (tmps.getD t undef)) ∧ (∀ b t, g (.cell b t) = do loadVar t (← asAddr (tmps.getD b undef))) ∧
    results fn tmps = (do let vs ← fn.results.mapM g; pure (if h : vs.size = 1 then vs[0] else .tuple vs)) := ⟨_, fun _ => rfl, fun _ _ => rfl, rfl⟩
theorem res_run {fn : Func} {a : Act} {rs : List ResultVar} {vs : List Value} (hf : fn.results = rs.toArray) (h : ResV P a.eval w rs vs) : (results fn a.tmps).run P w = .ok (resOf vs) w := by
  obtain ⟨g, h1, h2, e⟩ := results_g fn a.tmps
  have := res_map (P := P) (w := w) (ev := a.eval) h1 h2 h
  rw [e, hf, List.mapM_toArray]
  simp only [Sem.run_bind, Sem.run_map, this, Result.andThen]
  match vs with
  | [] => rfl
  | [v] => rfl
  | u :: v :: r => simp [resOf]
theorem qw_ret {fn : Func} {R : Ending → World → Prop} {rs : List ResultVar} (vs : List Value) (hf : fn.results = rs.toArray) (h : ResV P (evalW L ws) w rs vs) (hR : R (.returned (resOf vs)) w) : QW (bodyPost P fn R) .ret n L ws w := ⟨fun b =>
  bodyPost_ret (res_run hf (by rw [eval_W b.lt]; exact h)) rfl hR⟩
theorem qw_end {fn : Func} {R : Ending → World → Prop} {rs : List ResultVar} (vs : List Value) (hf : fn.results = rs.toArray) (h : ResV P (evalW L ws) w rs vs) (hR : R (.returned (resOf vs)) w) : QW (bodyPost P fn R) .normal n L ws w := ⟨fun b =>
  bodyPost_end (res_run hf (by rw [eval_W b.lt]; exact h)) rfl hR⟩
def StepN (P : Program) (ev : Operand → Value) (oi : Oper) (w : World) (N : Value → World → Prop) : Prop :=
  (∃ v w', (execOp ev oi).run P w = .ok (.value v) w' ∧ N v w') ∨ (∃ w', (execOp ev oi).run P w = .ok .skip w' ∧ N undef w') ∨
  (∃ f args, (execOp ev oi).run P w = .ok (.enter f args) w ∧ Calls P f args w fun e w' => ∃ v, e = .returned v ∧ N v w')
theorem StepN.wp {ev : Operand → Value} {oi : Oper} {N : Value → World → Prop} {a : Act} {K : Act → World → Prop} (h : StepN P ev oi w N) (he : a.eval = ev) (hK : ∀ v w', N v w' → K (a.put oi.dst v) w') : Oper.wp P oi a w K Q := by
  unfold Oper.wp
  rw [he]
  rcases h with ⟨v, w', h1, h3⟩ | ⟨w', h1, h3⟩ | ⟨f, args, h1, h2⟩
  · rw [h1, Oper.upon_value]; exact hK v w' h3
  · rw [h1, Oper.upon_skip]; exact hK undef w' h3
  · rw [h1, Oper.upon_enter]
    exact h2.mono fun e w' ⟨v, he, hn⟩ => by subst he; exact hK v w' hn
theorem StepN.toW {S : World → Prop} {oi : Oper} {N : Value → World → Prop} (h : StepN P (evalW L ws) oi w fun v w' => S w' ∧ N v w') : StepW P S L ws oi w fun v w' => S w' → N v w' := by
  rcases h with ⟨v, w', h1, h3⟩ | ⟨w', h1, h3⟩ | ⟨f, args, h1, h2⟩
  · exact .inl ⟨v, w', h1, h3.1, fun _ => h3.2⟩
  · exact .inr (.inl ⟨w', h1, h3.1, fun _ => h3.2⟩)
  · exact .inr (.inr ⟨f, args, h1, h2.mono fun e w' ⟨v, he, hn⟩ => ⟨v, he, hn.1, fun _ => hn.2⟩⟩)
theorem sn_call {ev : Operand → Value} {oi : Oper} {N : Value → World → Prop} {f : FuncId} {args : Array Value} (h1 : (execOp ev oi).run P w = .ok (.enter f args) w) (h2 : Calls P f args w fun e w' => ∃ v, e = .returned v ∧ N v w') : StepN P ev oi w N := .inr (.inr ⟨f, args, h1, h2⟩)
theorem sn_eff {ev : Operand → Value} {oi : Oper} {N : Value → World → Prop} {v : Value} {w' : World} (h1 : (execOp ev oi).run P w = .ok (.value v) w') (h3 : N v w') : StepN P ev oi w N := .inl ⟨v, w', h1, h3⟩
theorem sn_skp {ev : Operand → Value} {oi : Oper} {N : Value → World → Prop} {w' : World} (h1 : (execOp ev oi).run P w = .ok .skip w') (h3 : N undef w') : StepN P ev oi w N := .inr (.inl ⟨w', h1, h3⟩)
theorem sn_new {ev : Operand → Value} {oi : Oper} {N : Value → World → Prop} {us : Array Value} {t : TypeId} (h1 : (execOp ev oi).run P w = .ok (.value (.pointer (some ⟨w.heap.size, 0, none⟩))) (w.alloc (.cells us t)))
    (h : ∀ O X, w.heap.size = O → X.heap.size = O + 1 → Ext w X → (∀ i u, us[i]? = some u → BoxAt X O i u) → N (.pointer (some ⟨O, 0, none⟩)) X) : StepN P ev oi w N := by
  refine sn_eff h1 (h _ _ rfl (by simp) (Ext.alloc (Ext.refl _) _) (fun i u hu => ⟨?_, ?_⟩))
  · rw [cell_of_row _ _ i _ t (0, 0) (heap_alloc_new w _)]; exact hu
  · simp [go_sem]
theorem sn_newS {ev : Operand → Value} {oi : Oper} {N : Value → World → Prop} {us : Array Value} {t : TypeId} {k c : Nat} (h1 : (execOp ev oi).run P w = .ok (.value (.slice (some ⟨w.heap.size, 0, none⟩) k c)) (w.alloc (.cells us t)))
    (h : ∀ O X, w.heap.size = O → X.heap.size = O + 1 → Ext w X → (∀ i u, us[i]? = some u → BoxAt X O i u) → N (.slice (some ⟨O, 0, none⟩) k c) X) : StepN P ev oi w N := by
  refine sn_eff h1 (h _ _ rfl (by simp) (Ext.alloc (Ext.refl _) _) (fun i u hu => ⟨?_, ?_⟩))
  · rw [cell_of_row _ _ i _ t (0, 0) (heap_alloc_new w _)]; exact hu
  · simp [go_sem]
def wantP (ops : List Oper) (L : List Value) (ws : List (Nat × Value)) : Option (Nat × Bool) → Bool
  | none => true
  | some (g, want) => match ops.drop g with
    | o :: _ => (match o.dst with | some d => (match look ws (base L) d with | .bool b => b == want | _ => false) | none => false)
    | [] => false
theorem wantP_spec {ops : List Oper} {o : Oper} {b : Bool} (h : Bd n L ws) (hok : ∀ x ∈ ops, ∀ d, x.dst = some d → d < n) (hw : wantP ops L ws o.guard = b) :
    Region.wanted o (yielded ops.toArray (⟨(setAll L ws).toArray, []⟩ : Act).tmps) = b := by
  subst hw
  unfold Region.wanted wantP
  cases hgd : o.guard with
  | none => rfl
  | some p =>
    obtain ⟨g, want⟩ := p
    have ho : ops.toArray[g]? = ops[g]? := by simp
    simp only [yielded, ho]
    cases hj : ops[g]? with
    | none =>
      have : ops.drop g = [] := by
        rw [List.drop_eq_nil_iff]
        rcases Nat.lt_or_ge g ops.length with h1 | h1
        · rw [List.getElem?_eq_getElem h1] at hj; cases hj
        · exact h1
      rw [this]; rfl
    | some og =>
      obtain ⟨r, hr⟩ := drop_get hj
      rw [hr]
      simp only [Option.bind_some]
      cases hd : og.dst with
      | none => rfl
      | some d =>
        have hlt : d < n := hok og (List.mem_of_getElem? hj) d hd
        have hget := setAll_get L ws h.lt d
        have hlt2 : d < (setAll L ws).toArray.size := by simp [setAll_len, h.1, hlt]
        simp only [Array.getD, hlt2, dif_pos] at hget
        simp only [Option.bind_some]
        rw [Array.getElem?_eq_getElem hlt2]
        have e : (setAll L ws).toArray[d] = look ws (base L) d := hget
        rw [e]
        cases look ws (base L) d <;> rfl
def dstOk (n : Nat) : List Oper → Bool
  | [] => true
  | o :: r => (match o.dst with | some d => Nat.blt d n | none => true) && dstOk n r
theorem dstOk_spec {ops : List Oper} (h : dstOk n ops = true) : ∀ x ∈ ops, ∀ d, x.dst = some d → d < n := by
  induction ops with
  | nil => intro x hx; cases hx
  | cons o r ih =>
    unfold dstOk at h
    obtain ⟨h1, h2⟩ := Bool.and_eq_true_iff.1 h
    intro x hx d hd
    rcases List.mem_cons.1 hx with e | hx
    · rw [← e, hd] at h1; exact Nat.blt_eq.mp h1
    · exact ih h2 x hx d hd
theorem pl_nil {ops : List Oper} (h : QW Q .normal n L ws w) : PL P ops [] Q n L ws w := ⟨h.out⟩
theorem pl_take {ops rest : List Oper} {o : Oper} {d : Nat} (v : Value) (hdst : o.dst = some d) (hok : dstOk n ops = true) (hd : Nat.blt d n = true) (hw : wantP ops L ws o.guard = true)
    (hr : (execOp (evalW L ws) o).run P w = .ok (.value v) w) (h : PL P ops rest Q n L ((d, v) :: ws) w) : PL P ops (o :: rest) Q n L ws w := ⟨fun b => by
  refine wpList_step fun K hK => ?_
  rw [if_pos (wantP_spec b (dstOk_spec hok) hw)]
  unfold Oper.wp
  rw [eval_W b.lt, hr, Oper.upon_value]
  refine hK _ _ ?_
  rw [put_W, hdst]; exact h.out (b.put hd)⟩
theorem pl_skip {ops rest : List Oper} {o : Oper} {d : Nat} (hdst : o.dst = some d) (hok : dstOk n ops = true) (hd : Nat.blt d n = true) (hw : wantP ops L ws o.guard = false)
    (h : PL P ops rest Q n L ((d, undef) :: ws) w) : PL P ops (o :: rest) Q n L ws w := ⟨fun b => by
  refine wpList_step fun K hK => ?_
  rw [if_neg (by rw [wantP_spec b (dstOk_spec hok) hw]; simp)]
  refine hK _ _ ?_
  rw [put_W, hdst]; exact h.out (b.put hd)⟩
theorem pl_step {ops rest : List Oper} {o : Oper} {d : Nat} (hdst : o.dst = some d) (hok : dstOk n ops = true) (hd : Nat.blt d n = true) (hw : wantP ops L ws o.guard = true)
    (h : StepN P (evalW L ws) o w fun v w' => PL P ops rest Q n L ((d, v) :: ws) w') : PL P ops (o :: rest) Q n L ws w := ⟨fun b => by
  refine wpList_step fun K hK => ?_
  rw [if_pos (wantP_spec b (dstOk_spec hok) hw)]
  exact h.wp (eval_W b.lt []) fun v w' hn => hK _ _ (by rw [put_W, hdst]; exact hn.out (b.put hd))⟩
theorem pl_put {ops rest : List Oper} {o : Oper} (hdst : o.dst = none) (hok : dstOk n ops = true) (hw : wantP ops L ws o.guard = true)
    (h : StepN P (evalW L ws) o w fun _ w' => PL P ops rest Q n L ws w') : PL P ops (o :: rest) Q n L ws w := ⟨fun b => by
  refine wpList_step fun K hK => ?_
  rw [if_pos (wantP_spec b (dstOk_spec hok) hw)]
  exact h.wp (eval_W b.lt []) fun v w' hn => hK _ _ (by rw [put_W, hdst]; exact hn.out b)⟩
def Calm (Q : Exit → Act → World → Prop) : Prop := ∀ c d v a w, Q (.panic c) (Act.put a d v) w → Q (.panic c) a w
theorem calm_then {K : Act → World → Prop} (h : Calm Q) : Calm (Exit.then K Q) := fun c d v a w h' => h c d v a w h'
theorem calm_block {id : Nat} (h : Calm Q) : Calm (Exit.inBlock id Q) := fun c d v a w h' => h c d v a w h'
theorem calm_body {fn : Func} {R : Ending → World → Prop} : Calm (bodyPost P fn R) := fun c d v a w h => by cases d <;> exact h
theorem cw_draw {id : Nat} {ops0 : Array Oper} (T : List Row) (S : World → Prop) (hm : P.follows .mixedOrders = true) (ht : tableR ops0 = T) (hg : goodT n ops0.size T = true) (hs : Region.noSelect ops0 = true) (hQ : Calm Q) (hS : S w.drew)
    (h : ∀ (ops : Array Oper) (Q' : Exit → Act → World → Prop) (X : World), Ext w X → L.length = n → Reg P ops0 ops Q' L T → Shut (∀ ws w, QW Q .normal n L ws w → QW Q' .normal n L ws w) → WD P ops Q' S L ops0.size [] ws X) : CW P (.region id ops0 true) Q n L ws w := ⟨fun b => by
  refine wp_region_held_drew hm hS fun hS => ?_
  exact (h ops0 Q _ (Ext.drew (Ext.refl _)) b.1 ⟨rfl, ht, by rw [b.1]; exact hg, hs, hQ⟩ (fun _ _ h => h)).out b.lt⟩
variable {ops0 ops : Array Oper} {Q' : Exit → Act → World → Prop} {T : List Row} {S : World → Prop} {fuel : Nat} {done : List Nat}
theorem StepN.toD {S : World → Prop} {oi : Oper} {L' : Value → List (Nat × Value)} {Q' : Exit → Act → World → Prop} {ops : Array Oper} {fuel : Nat} {done : List Nat} (h : StepN P (evalW L ws) oi w fun v w' => S w' ∧ WD P ops Q' S L fuel done (L' v) w') : StepW P S L ws oi w fun v w' => S w' → W P ops Q' S L [] fuel done (L' v) w' :=
  StepN.toW (N := fun v w' => W P ops Q' S L [] fuel done (L' v) w') (by
    rcases h with ⟨v, w', h1, h3⟩ | ⟨w', h1, h3⟩ | ⟨f, args, h1, h2⟩
    · exact .inl ⟨v, w', h1, h3.1, h3.2.out⟩
    · exact .inr (.inl ⟨w', h1, h3.1, h3.2.out⟩)
    · exact .inr (.inr ⟨f, args, h1, h2.mono fun e w' ⟨v, he, hn⟩ => ⟨v, he, hn.1, hn.2.out⟩⟩))
theorem wd_end (hL : L.length = n) (hR : Reg P ops0 ops Q' L T) (hK : Shut (∀ ws w, QW Q .normal n L ws w → QW Q' .normal n L ws w)) (hd : upT done (numbered T 0) = []) (h : QW Q .normal n L ws w) : WD P ops Q' S L fuel done ws w := ⟨fun hb => by
  refine wpAnyH_done ?_ ?_ fuel
  · rw [List.eq_nil_iff_forall_not_mem]
    intro j hj
    have := ready_up hR hj
    rw [hd] at this; cases this
  · exact (hK _ _ h).out ⟨hL, fun p hp => by rw [← hL]; exact hb p hp⟩⟩
theorem wd_take (i : Nat) {d : Nat} {oi : Oper} {r : List Oper} (v : Value) (hR : Reg P ops0 ops Q' L T) (hi : ops0.toList.drop i = oi :: r) (hr : readyT T done i = true) (hdst : oi.dst = some d)
    (hw : wantedW T L ws oi.guard = true) (hy : ∀ w, S w → (execOp (evalW L ws) oi).run P w = .ok (.value v) w) (hS : S w)
    (h : WD P ops Q' S L fuel (i :: done) ((d, v) :: ws) w) : WD P ops Q' S L (fuel + 1) done ws w := ⟨wg_take i hR hi hr hw hy hS (by rw [hdst]; exact h.out)⟩
theorem wd_skip (i : Nat) {d : Nat} {oi : Oper} {r : List Oper} (hR : Reg P ops0 ops Q' L T) (hi : ops0.toList.drop i = oi :: r) (hr : readyT T done i = true) (hdst : oi.dst = some d)
    (hw : wantedW T L ws oi.guard = false) (hS : S w)
    (h : WD P ops Q' S L fuel (i :: done) ((d, undef) :: ws) w) : WD P ops Q' S L (fuel + 1) done ws w := ⟨wg_skip i hR hi hr hw hS (by rw [hdst]; exact h.out)⟩
theorem wd_step (i : Nat) {oi : Oper} {r : List Oper} (hR : Reg P ops0 ops Q' L T) (hi : ops0.toList.drop i = oi :: r) (hr : upT done (numbered T 0) = [i]) (hr2 : readyT T done i = true)
    (hw : wantedW T L ws oi.guard = true) (h : StepN P (evalW L ws) oi w fun v w' => S w' ∧ WD P ops Q' S L fuel (i :: done) (putW oi.dst v ws) w') : WD P ops Q' S L (fuel + 1) done ws w := ⟨wg_step i hR hi hr hw h.toD hr2⟩
theorem wd_two (i j : Nat) {oi oj : Oper} {r s : List Oper} (hR : Reg P ops0 ops Q' L T) (hi : ops0.toList.drop i = oi :: r) (hj : ops0.toList.drop j = oj :: s) (hr : upT done (numbered T 0) = [i, j]) (hr2 : readyT T done i = true)
    (hwi : wantedW T L ws oi.guard = true) (hwj : wantedW T L ws oj.guard = true)
    (h1 : StepN P (evalW L ws) oi w fun v w' => S w' ∧ WD P ops Q' S L fuel (i :: done) (putW oi.dst v ws) w')
    (h2 : StepN P (evalW L ws) oj w fun v w' => S w' ∧ WD P ops Q' S L fuel (j :: done) (putW oj.dst v ws) w') : WD P ops Q' S L (fuel + 1) done ws w := ⟨wg_two i j hR hi hj hr hwi hwj hr2 h1.toD h2.toD⟩
def pickW (ws : List (Nat × Value)) : List Nat → Option (List (Nat × Value))
  | [] => some []
  | k :: ks => match lookO ws k, pickW ws ks with
    | some v, some r => some ((k, v) :: r)
    | _, _ => none
theorem pick_look : ∀ {ks : List Nat} {ws' : List (Nat × Value)}, pickW ws ks = some ws' → ∀ t v, lookO ws' t = some v → lookO ws t = some v
  | [], ws', h, t, v, ht => by cases h; cases ht
  | k :: ks, ws', h, t, v, ht => by
    unfold pickW at h
    cases e1 : lookO ws k with
    | none => rw [e1] at h; cases h
    | some u =>
      cases e2 : pickW ws ks with
      | none => rw [e1, e2] at h; cases h
      | some r =>
        rw [e1, e2] at h; cases h
        unfold lookO at ht
        by_cases e : t = k
        · rw [if_pos e] at ht; subst e; rw [e1]; exact ht
        · rw [if_neg e] at ht; exact pick_look e2 t v ht
theorem look_mem : ∀ {ws : List (Nat × Value)} {t : Nat} {v : Value}, lookO ws t = some v → (t, v) ∈ ws
  | (d, u) :: r, t, v, h => by
    unfold lookO at h
    by_cases e : t = d
    · rw [if_pos e] at h; cases h; subst e; exact List.mem_cons_self
    · rw [if_neg e] at h; exact List.mem_cons_of_mem _ (look_mem h)
theorem mem_look : ∀ {ws : List (Nat × Value)} {p : Nat × Value}, p ∈ ws → ∃ v, lookO ws p.1 = some v
  | (d, u) :: r, p, h => by
    by_cases e : p.1 = d
    · exact ⟨u, by rw [lookO, if_pos e]⟩
    · rcases List.mem_cons.1 h with rfl | h
      · exact absurd rfl e
      · obtain ⟨v, hv⟩ := mem_look h
        exact ⟨v, by rw [lookO, if_neg e, hv]⟩
theorem pick_set {ks : List Nat} {ws' : List (Nat × Value)} (h : pickW ws ks = some ws') : setAll (setAll L ws) ws' = setAll L ws := by
  refine List.ext_getElem? fun t => ?_
  rw [setAll_get?, setAll_len]
  split
  · rename_i ht
    cases e : lookO ws' t with
    | none => simp
    | some v =>
      have := pick_look h t v e
      rw [setAll_get?, if_pos ht, this]; rfl
  · rename_i ht
    rw [setAll_get?, if_neg ht]
theorem pick_bd {ks : List Nat} {ws' : List (Nat × Value)} (h : pickW ws ks = some ws') (b : Bd n L ws) : Bd n (setAll L ws) ws' :=
  ⟨by rw [setAll_len]; exact b.1, fun p hp => by
    obtain ⟨v, hv⟩ := mem_look hp
    exact b.2 (p.1, v) (look_mem (pick_look h _ _ hv))⟩
theorem cw_clean {c : Code} (ks : List Nat) {ws' : List (Nat × Value)} (hp : pickW ws ks = some ws') (h : ∀ L', CW P c Q n L' ws' w) : CW P c Q n L ws w := ⟨fun b => by
  have := (h (setAll L ws)).out (pick_bd hp b)
  rwa [pick_set hp] at this⟩
theorem cw_join {c : Code} (R : List (Nat × Value) → World → Prop) (main : (∀ L' ws' w', R ws' w' → QW Q .normal n L' ws' w') → CW P c Q n L ws w) (rest : ∀ L' ws' w', R ws' w' → QW Q .normal n L' ws' w') : CW P c Q n L ws w := main rest
theorem qw_leaf {R : List (Nat × Value) → World → Prop} (hJ : ∀ L' ws' w', R ws' w' → QW Q .normal n L' ws' w') (ks : List Nat) {ws' : List (Nat × Value)} (hp : pickW ws ks = some ws') (h : R ws' w) : QW Q .normal n L ws w := ⟨fun b => by
  have := (hJ (setAll L ws) ws' w h).out (pick_bd hp b)
  rwa [pick_set hp] at this⟩
theorem least {p : Nat → Prop} : (∃ m, p m) → ∃ m, p m ∧ ∀ k, p k → m ≤ k := by
  rintro ⟨m, hm⟩
  induction m using Nat.strongRecOn with
  | _ m ih =>
    by_cases h : ∃ k, k < m ∧ p k
    · obtain ⟨k, hk, hp⟩ := h; exact ih k hk hp
    · exact ⟨m, hm, fun k hk => Nat.le_of_not_lt fun hlt => h ⟨k, hlt, hk⟩⟩
def LoopK (n : Nat) (Inv : List (Nat × Value) → World → Nat → Prop) (m : Nat) : Act → World → Prop := fun a w => ∃ L' ws' m', m' < m ∧ Bd n L' ws' ∧ a = ⟨(setAll L' ws').toArray, []⟩ ∧ Inv ws' w m'
open Classical in
theorem cw_loop {c : Code} (ks : List Nat) (Inv : List (Nat × Value) → World → Nat → Prop) {ws0 : List (Nat × Value)} (hp : pickW ws ks = some ws0) (m0 : Nat) (h0 : Inv ws0 w m0)
    (round : ∀ m L' ws' w', Inv ws' w' m → CW P c (Exit.then (LoopK n Inv m) Q) n L' ws' w') : CW P (.loop c) Q n L ws w := ⟨fun b => by
  let J : Nat → Act → World → Prop := fun m a w => ∃ L' ws', Bd n L' ws' ∧ a = ⟨(setAll L' ws').toArray, []⟩ ∧ Inv ws' w m
  let μ : Act → World → Nat := fun a w => if h : ∃ m, J m a w then Classical.choose (least h) else 0
  have hμ : ∀ a w (h : ∃ m, J m a w), J (μ a w) a w ∧ ∀ k, J k a w → μ a w ≤ k := fun a w h => by
    have e : μ a w = Classical.choose (least h) := dif_pos h
    rw [e]; exact Classical.choose_spec (least h)
  refine wp_loop (fun a w => ∃ m, J m a w) μ ⟨m0, setAll L ws, ws0, pick_bd hp b, by rw [pick_set hp], h0⟩ fun a w h => ?_
  obtain ⟨⟨L', ws', hb, ha, hI⟩, _⟩ := hμ a w h
  have := (round (μ a w) L' ws' w hI).out hb
  rw [← ha] at this
  refine Code.wp_mono (fun e a' w' q => ?_) this
  cases e with
  | normal =>
    obtain ⟨L2, ws2, m2, hlt, hb2, ha2, hI2⟩ := q
    have hJ : J m2 a' w' := ⟨L2, ws2, hb2, ha2, hI2⟩
    exact ⟨⟨m2, hJ⟩, Nat.lt_of_le_of_lt ((hμ a' w' ⟨m2, hJ⟩).2 m2 hJ) hlt⟩
  | _ => exact q⟩
theorem qw_round {Inv : List (Nat × Value) → World → Nat → Prop} {m : Nat} (ks : List Nat) {ws' : List (Nat × Value)} (hp : pickW ws ks = some ws') (m' : Nat) (hlt : m' < m) (h : Inv ws' w m') : QW (Exit.then (LoopK n Inv m) Q) .normal n L ws w := ⟨fun b =>
  ⟨setAll L ws, ws', m', hlt, pick_bd hp b, by rw [pick_set hp], h⟩⟩
end
theorem T {a b c : Nat} (h : a ≤ b) (k : b ≤ c) : a ≤ c := Nat.le_trans h k
section
variable {P : Program} {n : Nat} {L : List Value} {ws : List (Nat × Value)} {w : World} {Q : Exit → Act → World → Prop}
theorem pT {ops rest : List Oper} {o : Oper} {d : Nat} (v : Value) (h : PL P ops rest Q n L ((d, v) :: ws) w) (hdst : o.dst = some d := by rfl) (hok : dstOk n ops = true := by kernel_rfl) (hd : Nat.blt d n = true := by kernel_rfl) (hw : wantP ops L ws o.guard = true := by kernel_rfl)
    (hr : (execOp (evalW L ws) o).run P w = .ok (.value v) w := by kernel_rfl) : PL P ops (o :: rest) Q n L ws w := pl_take v hdst hok hd hw hr h
theorem pU {ops rest : List Oper} {o : Oper} {d : Nat} (v : Value) (hr : (execOp (evalW L ws) o).run P w = .ok (.value v) w) (h : PL P ops rest Q n L ((d, v) :: ws) w) (hdst : o.dst = some d := by rfl) (hok : dstOk n ops = true := by kernel_rfl) (hd : Nat.blt d n = true := by kernel_rfl) (hw : wantP ops L ws o.guard = true := by kernel_rfl) : PL P ops (o :: rest) Q n L ws w := pl_take v hdst hok hd hw hr h
theorem pK {ops rest : List Oper} {o : Oper} {d : Nat} (h : PL P ops rest Q n L ((d, undef) :: ws) w) (hdst : o.dst = some d := by rfl) (hok : dstOk n ops = true := by kernel_rfl) (hd : Nat.blt d n = true := by kernel_rfl) (hw : wantP ops L ws o.guard = false := by kernel_rfl) : PL P ops (o :: rest) Q n L ws w := pl_skip hdst hok hd hw h
theorem pS {ops rest : List Oper} {o : Oper} {d : Nat} (h : StepN P (evalW L ws) o w fun v w' => PL P ops rest Q n L ((d, v) :: ws) w') (hdst : o.dst = some d := by rfl) (hok : dstOk n ops = true := by kernel_rfl) (hd : Nat.blt d n = true := by kernel_rfl) (hw : wantP ops L ws o.guard = true := by kernel_rfl) : PL P ops (o :: rest) Q n L ws w := pl_step hdst hok hd hw h
theorem pP {ops rest : List Oper} {o : Oper} (h : StepN P (evalW L ws) o w fun _ w' => PL P ops rest Q n L ws w') (hdst : o.dst = none := by rfl) (hok : dstOk n ops = true := by kernel_rfl) (hw : wantP ops L ws o.guard = true := by kernel_rfl) : PL P ops (o :: rest) Q n L ws w := pl_put hdst hok hw h
variable {ops0 ops : Array Oper} {Q' : Exit → Act → World → Prop} {T9 : List Row} {S : World → Prop} {fuel : Nat} {done : List Nat}
theorem wS (i : Nat) {oi : Oper} {r : List Oper} (hR : Reg P ops0 ops Q' L T9) (h : StepN P (evalW L ws) oi w fun v w' => S w' ∧ WD P ops Q' S L fuel (i :: done) (putW oi.dst v ws) w') (hi : ops0.toList.drop i = oi :: r := by rfl) (hr : upT done (numbered T9 0) = [i] := by kernel_rfl) (hr2 : readyT T9 done i = true := by kernel_rfl)
    (hw : wantedW T9 L ws oi.guard = true := by kernel_rfl) : WD P ops Q' S L (fuel + 1) done ws w := wd_step i hR hi hr hr2 hw h
class At1 (ws : List (Nat × Value)) (k : Nat) (v : outParam Value) : Prop where
  out : True
instance {k : Nat} {v : Value} {r : List (Nat × Value)} : At1 ((k, v) :: r) k v := ⟨trivial⟩
instance (priority := low) {k : Nat} {p : Nat × Value} {v : Value} {r : List (Nat × Value)} [At1 r k v] : At1 (p :: r) k v := ⟨trivial⟩
instance {k : Nat} {v : Value} {r : List (Nat × Value)} : At1 (putW (some k) v r) k v := ⟨trivial⟩
instance (priority := low) {k d : Nat} {u v : Value} {r : List (Nat × Value)} [At1 r k v] : At1 (putW (some d) u r) k v := ⟨trivial⟩
instance (priority := low) {k : Nat} {u v : Value} {r : List (Nat × Value)} [At1 r k v] : At1 (putW none u r) k v := ⟨trivial⟩
end
theorem bq1 {X : World} {O : Nat} {u0 : Value} (h : ∀ i u, (#[u0] : Array Value)[i]? = some u → BoxAt X O i u) : BoxAt X O 0 u0 := h 0 _ rfl
theorem bq2 {X : World} {O : Nat} {u0 u1 : Value} (h : ∀ i u, (#[u0, u1] : Array Value)[i]? = some u → BoxAt X O i u) : BoxAt X O 0 u0 ∧ BoxAt X O 1 u1 := ⟨h 0 _ rfl, h 1 _ rfl⟩
theorem bq3 {X : World} {O : Nat} {u0 u1 u2 : Value} (h : ∀ i u, (#[u0, u1, u2] : Array Value)[i]? = some u → BoxAt X O i u) : BoxAt X O 0 u0 ∧ BoxAt X O 1 u1 ∧ BoxAt X O 2 u2 := ⟨h 0 _ rfl, h 1 _ rfl, h 2 _ rfl⟩
theorem bq4 {X : World} {O : Nat} {u0 u1 u2 u3 : Value} (h : ∀ i u, (#[u0, u1, u2, u3] : Array Value)[i]? = some u → BoxAt X O i u) : BoxAt X O 0 u0 ∧ BoxAt X O 1 u1 ∧ BoxAt X O 2 u2 ∧ BoxAt X O 3 u3 := ⟨h 0 _ rfl, h 1 _ rfl, h 2 _ rfl, h 3 _ rfl⟩
theorem bq5 {X : World} {O : Nat} {u0 u1 u2 u3 u4 : Value} (h : ∀ i u, (#[u0, u1, u2, u3, u4] : Array Value)[i]? = some u → BoxAt X O i u) : BoxAt X O 0 u0 ∧ BoxAt X O 1 u1 ∧ BoxAt X O 2 u2 ∧ BoxAt X O 3 u3 ∧ BoxAt X O 4 u4 := ⟨h 0 _ rfl, h 1 _ rfl, h 2 _ rfl, h 3 _ rfl, h 4 _ rfl⟩
theorem bq6 {X : World} {O : Nat} {u0 u1 u2 u3 u4 u5 : Value} (h : ∀ i u, (#[u0, u1, u2, u3, u4, u5] : Array Value)[i]? = some u → BoxAt X O i u) : BoxAt X O 0 u0 ∧ BoxAt X O 1 u1 ∧ BoxAt X O 2 u2 ∧ BoxAt X O 3 u3 ∧ BoxAt X O 4 u4 ∧ BoxAt X O 5 u5 := ⟨h 0 _ rfl, h 1 _ rfl, h 2 _ rfl, h 3 _ rfl, h 4 _ rfl, h 5 _ rfl⟩
theorem bq7 {X : World} {O : Nat} {u0 u1 u2 u3 u4 u5 u6 : Value} (h : ∀ i u, (#[u0, u1, u2, u3, u4, u5, u6] : Array Value)[i]? = some u → BoxAt X O i u) : BoxAt X O 0 u0 ∧ BoxAt X O 1 u1 ∧ BoxAt X O 2 u2 ∧ BoxAt X O 3 u3 ∧ BoxAt X O 4 u4 ∧ BoxAt X O 5 u5 ∧ BoxAt X O 6 u6 := ⟨h 0 _ rfl, h 1 _ rfl, h 2 _ rfl, h 3 _ rfl, h 4 _ rfl, h 5 _ rfl, h 6 _ rfl⟩
section
variable {P : Program} {n : Nat} {L : List Value} {ws : List (Nat × Value)} {w : World} {Q : Exit → Act → World → Prop}
variable {ops0 ops : Array Oper} {Q' : Exit → Act → World → Prop} {T9 : List Row} {S : World → Prop} {fuel : Nat} {done : List Nat}
theorem wV (i : Nat) {d : Nat} {oi : Oper} {r : List Oper} (v : Value) (hR : Reg P ops0 ops Q' L T9) (hS : S w) (h : WD P ops Q' S L fuel (i :: done) ((d, v) :: ws) w) (hi : ops0.toList.drop i = oi :: r := by rfl) (hr : readyT T9 done i = true := by kernel_rfl) (hdst : oi.dst = some d := by rfl) (hw : wantedW T9 L ws oi.guard = true := by kernel_rfl)
    (hy : ∀ w, S w → (execOp (evalW L ws) oi).run P w = .ok (.value v) w := by intro w _; kernel_rfl) : WD P ops Q' S L (fuel + 1) done ws w := wd_take i v hR hi hr hdst hw hy hS h
theorem wL (i : Nat) {d : Nat} {oi : Oper} {r : List Oper} (v : Value) (hR : Reg P ops0 ops Q' L T9) (hy : ∀ w, S w → (execOp (evalW L ws) oi).run P w = .ok (.value v) w) (hS : S w) (h : WD P ops Q' S L fuel (i :: done) ((d, v) :: ws) w)
    (hi : ops0.toList.drop i = oi :: r := by rfl) (hr : readyT T9 done i = true := by kernel_rfl) (hdst : oi.dst = some d := by rfl) (hw : wantedW T9 L ws oi.guard = true := by kernel_rfl) : WD P ops Q' S L (fuel + 1) done ws w := wd_take i v hR hi hr hdst hw hy hS h
theorem wK (i : Nat) {d : Nat} {oi : Oper} {r : List Oper} (hR : Reg P ops0 ops Q' L T9) (hS : S w) (h : WD P ops Q' S L fuel (i :: done) ((d, undef) :: ws) w) (hi : ops0.toList.drop i = oi :: r := by rfl) (hr : readyT T9 done i = true := by kernel_rfl) (hdst : oi.dst = some d := by rfl) (hw : wantedW T9 L ws oi.guard = false := by kernel_rfl) : WD P ops Q' S L (fuel + 1) done ws w := wd_skip i hR hi hr hdst hw hS h
theorem BoxAt.x {w w' : World} {b o : Nat} {v : Value} (h : BoxAt w b o v) (hE : Ext w w') : BoxAt w' b o v := BoxAt.ext hE h
theorem A2 {p0 p1 : Prop} (h0 : p0) (h1 : p1) : p0 ∧ p1 := ⟨h0, h1⟩
theorem A3 {p0 p1 p2 : Prop} (h0 : p0) (h1 : p1) (h2 : p2) : p0 ∧ p1 ∧ p2 := ⟨h0, h1, h2⟩
theorem A4 {p0 p1 p2 p3 : Prop} (h0 : p0) (h1 : p1) (h2 : p2) (h3 : p3) : p0 ∧ p1 ∧ p2 ∧ p3 := ⟨h0, h1, h2, h3⟩
theorem A5 {p0 p1 p2 p3 p4 : Prop} (h0 : p0) (h1 : p1) (h2 : p2) (h3 : p3) (h4 : p4) : p0 ∧ p1 ∧ p2 ∧ p3 ∧ p4 := ⟨h0, h1, h2, h3, h4⟩
theorem A6 {p0 p1 p2 p3 p4 p5 : Prop} (h0 : p0) (h1 : p1) (h2 : p2) (h3 : p3) (h4 : p4) (h5 : p5) : p0 ∧ p1 ∧ p2 ∧ p3 ∧ p4 ∧ p5 := ⟨h0, h1, h2, h3, h4, h5⟩
theorem A7 {p0 p1 p2 p3 p4 p5 p6 : Prop} (h0 : p0) (h1 : p1) (h2 : p2) (h3 : p3) (h4 : p4) (h5 : p5) (h6 : p6) : p0 ∧ p1 ∧ p2 ∧ p3 ∧ p4 ∧ p5 ∧ p6 := ⟨h0, h1, h2, h3, h4, h5, h6⟩
theorem A8 {p0 p1 p2 p3 p4 p5 p6 p7 : Prop} (h0 : p0) (h1 : p1) (h2 : p2) (h3 : p3) (h4 : p4) (h5 : p5) (h6 : p6) (h7 : p7) : p0 ∧ p1 ∧ p2 ∧ p3 ∧ p4 ∧ p5 ∧ p6 ∧ p7 := ⟨h0, h1, h2, h3, h4, h5, h6, h7⟩
theorem A9 {p0 p1 p2 p3 p4 p5 p6 p7 p8 : Prop} (h0 : p0) (h1 : p1) (h2 : p2) (h3 : p3) (h4 : p4) (h5 : p5) (h6 : p6) (h7 : p7) (h8 : p8) : p0 ∧ p1 ∧ p2 ∧ p3 ∧ p4 ∧ p5 ∧ p6 ∧ p7 ∧ p8 := ⟨h0, h1, h2, h3, h4, h5, h6, h7, h8⟩
theorem A11 {p0 p1 p2 p3 p4 p5 p6 p7 p8 p9 p10 : Prop} (h0 : p0) (h1 : p1) (h2 : p2) (h3 : p3) (h4 : p4) (h5 : p5) (h6 : p6) (h7 : p7) (h8 : p8) (h9 : p9) (h10 : p10) : p0 ∧ p1 ∧ p2 ∧ p3 ∧ p4 ∧ p5 ∧ p6 ∧ p7 ∧ p8 ∧ p9 ∧ p10 := ⟨h0, h1, h2, h3, h4, h5, h6, h7, h8, h9, h10⟩
theorem A14 {p0 p1 p2 p3 p4 p5 p6 p7 p8 p9 p10 p11 p12 p13 : Prop} (h0 : p0) (h1 : p1) (h2 : p2) (h3 : p3) (h4 : p4) (h5 : p5) (h6 : p6) (h7 : p7) (h8 : p8) (h9 : p9) (h10 : p10) (h11 : p11) (h12 : p12) (h13 : p13) : p0 ∧ p1 ∧ p2 ∧ p3 ∧ p4 ∧ p5 ∧ p6 ∧ p7 ∧ p8 ∧ p9 ∧ p10 ∧ p11 ∧ p12 ∧ p13 := ⟨h0, h1, h2, h3, h4, h5, h6, h7, h8, h9, h10, h11, h12, h13⟩
theorem A15 {p0 p1 p2 p3 p4 p5 p6 p7 p8 p9 p10 p11 p12 p13 p14 : Prop} (h0 : p0) (h1 : p1) (h2 : p2) (h3 : p3) (h4 : p4) (h5 : p5) (h6 : p6) (h7 : p7) (h8 : p8) (h9 : p9) (h10 : p10) (h11 : p11) (h12 : p12) (h13 : p13) (h14 : p14) : p0 ∧ p1 ∧ p2 ∧ p3 ∧ p4 ∧ p5 ∧ p6 ∧ p7 ∧ p8 ∧ p9 ∧ p10 ∧ p11 ∧ p12 ∧ p13 ∧ p14 := ⟨h0, h1, h2, h3, h4, h5, h6, h7, h8, h9, h10, h11, h12, h13, h14⟩
theorem A16 {p0 p1 p2 p3 p4 p5 p6 p7 p8 p9 p10 p11 p12 p13 p14 p15 : Prop} (h0 : p0) (h1 : p1) (h2 : p2) (h3 : p3) (h4 : p4) (h5 : p5) (h6 : p6) (h7 : p7) (h8 : p8) (h9 : p9) (h10 : p10) (h11 : p11) (h12 : p12) (h13 : p13) (h14 : p14) (h15 : p15) : p0 ∧ p1 ∧ p2 ∧ p3 ∧ p4 ∧ p5 ∧ p6 ∧ p7 ∧ p8 ∧ p9 ∧ p10 ∧ p11 ∧ p12 ∧ p13 ∧ p14 ∧ p15 := ⟨h0, h1, h2, h3, h4, h5, h6, h7, h8, h9, h10, h11, h12, h13, h14, h15⟩
theorem A18 {p0 p1 p2 p3 p4 p5 p6 p7 p8 p9 p10 p11 p12 p13 p14 p15 p16 p17 : Prop} (h0 : p0) (h1 : p1) (h2 : p2) (h3 : p3) (h4 : p4) (h5 : p5) (h6 : p6) (h7 : p7) (h8 : p8) (h9 : p9) (h10 : p10) (h11 : p11) (h12 : p12) (h13 : p13) (h14 : p14) (h15 : p15) (h16 : p16) (h17 : p17) : p0 ∧ p1 ∧ p2 ∧ p3 ∧ p4 ∧ p5 ∧ p6 ∧ p7 ∧ p8 ∧ p9 ∧ p10 ∧ p11 ∧ p12 ∧ p13 ∧ p14 ∧ p15 ∧ p16 ∧ p17 := ⟨h0, h1, h2, h3, h4, h5, h6, h7, h8, h9, h10, h11, h12, h13, h14, h15, h16, h17⟩
end
class MvC (w w' : World) (p : Prop) (p' : outParam Prop) : Prop where
  out : Ext w w' → p → p'
instance {w w' : World} {b o : Nat} {v : Value} : MvC w w' (BoxAt w b o v) (BoxAt w' b o v) := ⟨fun e h => BoxAt.ext e h⟩
instance {w w' U : World} : MvC w w' (Ext U w) (Ext U w') := ⟨fun e h => h.trans e⟩
instance {w w' : World} {b o : Nat} {l : List Int} : MvC w w' (VA w b o l) (VA w' b o l) := ⟨fun e h => h.ext e⟩
instance {w w' : World} {a : Option Addr} {l : List Int} {n : Nat} {v : Bool} : MvC w w' (AA w a l n v) (AA w' a l n v) := ⟨fun e h => h.ext e⟩
theorem mv16 {w w' : World} {p0 q0 p1 q1 p2 q2 p3 q3 p4 q4 p5 q5 p6 q6 p7 q7 p8 q8 p9 q9 p10 q10 p11 q11 p12 q12 p13 q13 p14 q14 p15 q15 G : Prop} [c0 : MvC w w' p0 q0] [c1 : MvC w w' p1 q1] [c2 : MvC w w' p2 q2] [c3 : MvC w w' p3 q3] [c4 : MvC w w' p4 q4] [c5 : MvC w w' p5 q5] [c6 : MvC w w' p6 q6] [c7 : MvC w w' p7 q7] [c8 : MvC w w' p8 q8] [c9 : MvC w w' p9 q9] [c10 : MvC w w' p10 q10] [c11 : MvC w w' p11 q11] [c12 : MvC w w' p12 q12] [c13 : MvC w w' p13 q13] [c14 : MvC w w' p14 q14] [c15 : MvC w w' p15 q15] (e : Ext w w') (h0 : p0) (h1 : p1) (h2 : p2) (h3 : p3) (h4 : p4) (h5 : p5) (h6 : p6) (h7 : p7) (h8 : p8) (h9 : p9) (h10 : p10) (h11 : p11) (h12 : p12) (h13 : p13) (h14 : p14) (h15 : p15) (h : q0 → q1 → q2 → q3 → q4 → q5 → q6 → q7 → q8 → q9 → q10 → q11 → q12 → q13 → q14 → q15 → G) : G := h (c0.out e h0) (c1.out e h1) (c2.out e h2) (c3.out e h3) (c4.out e h4) (c5.out e h5) (c6.out e h6) (c7.out e h7) (c8.out e h8) (c9.out e h9) (c10.out e h10) (c11.out e h11) (c12.out e h12) (c13.out e h13) (c14.out e h14) (c15.out e h15)
theorem mv12 {w w' : World} {p0 q0 p1 q1 p2 q2 p3 q3 p4 q4 p5 q5 p6 q6 p7 q7 p8 q8 p9 q9 p10 q10 p11 q11 G : Prop} [c0 : MvC w w' p0 q0] [c1 : MvC w w' p1 q1] [c2 : MvC w w' p2 q2] [c3 : MvC w w' p3 q3] [c4 : MvC w w' p4 q4] [c5 : MvC w w' p5 q5] [c6 : MvC w w' p6 q6] [c7 : MvC w w' p7 q7] [c8 : MvC w w' p8 q8] [c9 : MvC w w' p9 q9] [c10 : MvC w w' p10 q10] [c11 : MvC w w' p11 q11] (e : Ext w w') (h0 : p0) (h1 : p1) (h2 : p2) (h3 : p3) (h4 : p4) (h5 : p5) (h6 : p6) (h7 : p7) (h8 : p8) (h9 : p9) (h10 : p10) (h11 : p11) (h : q0 → q1 → q2 → q3 → q4 → q5 → q6 → q7 → q8 → q9 → q10 → q11 → G) : G := h (c0.out e h0) (c1.out e h1) (c2.out e h2) (c3.out e h3) (c4.out e h4) (c5.out e h5) (c6.out e h6) (c7.out e h7) (c8.out e h8) (c9.out e h9) (c10.out e h10) (c11.out e h11)
theorem mv9 {w w' : World} {p0 q0 p1 q1 p2 q2 p3 q3 p4 q4 p5 q5 p6 q6 p7 q7 p8 q8 G : Prop} [c0 : MvC w w' p0 q0] [c1 : MvC w w' p1 q1] [c2 : MvC w w' p2 q2] [c3 : MvC w w' p3 q3] [c4 : MvC w w' p4 q4] [c5 : MvC w w' p5 q5] [c6 : MvC w w' p6 q6] [c7 : MvC w w' p7 q7] [c8 : MvC w w' p8 q8] (e : Ext w w') (h0 : p0) (h1 : p1) (h2 : p2) (h3 : p3) (h4 : p4) (h5 : p5) (h6 : p6) (h7 : p7) (h8 : p8) (h : q0 → q1 → q2 → q3 → q4 → q5 → q6 → q7 → q8 → G) : G := h (c0.out e h0) (c1.out e h1) (c2.out e h2) (c3.out e h3) (c4.out e h4) (c5.out e h5) (c6.out e h6) (c7.out e h7) (c8.out e h8)
theorem mv7 {w w' : World} {p0 q0 p1 q1 p2 q2 p3 q3 p4 q4 p5 q5 p6 q6 G : Prop} [c0 : MvC w w' p0 q0] [c1 : MvC w w' p1 q1] [c2 : MvC w w' p2 q2] [c3 : MvC w w' p3 q3] [c4 : MvC w w' p4 q4] [c5 : MvC w w' p5 q5] [c6 : MvC w w' p6 q6] (e : Ext w w') (h0 : p0) (h1 : p1) (h2 : p2) (h3 : p3) (h4 : p4) (h5 : p5) (h6 : p6) (h : q0 → q1 → q2 → q3 → q4 → q5 → q6 → G) : G := h (c0.out e h0) (c1.out e h1) (c2.out e h2) (c3.out e h3) (c4.out e h4) (c5.out e h5) (c6.out e h6)
theorem mv6 {w w' : World} {p0 q0 p1 q1 p2 q2 p3 q3 p4 q4 p5 q5 G : Prop} [c0 : MvC w w' p0 q0] [c1 : MvC w w' p1 q1] [c2 : MvC w w' p2 q2] [c3 : MvC w w' p3 q3] [c4 : MvC w w' p4 q4] [c5 : MvC w w' p5 q5] (e : Ext w w') (h0 : p0) (h1 : p1) (h2 : p2) (h3 : p3) (h4 : p4) (h5 : p5) (h : q0 → q1 → q2 → q3 → q4 → q5 → G) : G := h (c0.out e h0) (c1.out e h1) (c2.out e h2) (c3.out e h3) (c4.out e h4) (c5.out e h5)
theorem mv5 {w w' : World} {p0 q0 p1 q1 p2 q2 p3 q3 p4 q4 G : Prop} [c0 : MvC w w' p0 q0] [c1 : MvC w w' p1 q1] [c2 : MvC w w' p2 q2] [c3 : MvC w w' p3 q3] [c4 : MvC w w' p4 q4] (e : Ext w w') (h0 : p0) (h1 : p1) (h2 : p2) (h3 : p3) (h4 : p4) (h : q0 → q1 → q2 → q3 → q4 → G) : G := h (c0.out e h0) (c1.out e h1) (c2.out e h2) (c3.out e h3) (c4.out e h4)
theorem mv4 {w w' : World} {p0 q0 p1 q1 p2 q2 p3 q3 G : Prop} [c0 : MvC w w' p0 q0] [c1 : MvC w w' p1 q1] [c2 : MvC w w' p2 q2] [c3 : MvC w w' p3 q3] (e : Ext w w') (h0 : p0) (h1 : p1) (h2 : p2) (h3 : p3) (h : q0 → q1 → q2 → q3 → G) : G := h (c0.out e h0) (c1.out e h1) (c2.out e h2) (c3.out e h3)
theorem mv3 {w w' : World} {p0 q0 p1 q1 p2 q2 G : Prop} [c0 : MvC w w' p0 q0] [c1 : MvC w w' p1 q1] [c2 : MvC w w' p2 q2] (e : Ext w w') (h0 : p0) (h1 : p1) (h2 : p2) (h : q0 → q1 → q2 → G) : G := h (c0.out e h0) (c1.out e h1) (c2.out e h2)
theorem mv2 {w w' : World} {p0 q0 p1 q1 G : Prop} [c0 : MvC w w' p0 q0] [c1 : MvC w w' p1 q1] (e : Ext w w') (h0 : p0) (h1 : p1) (h : q0 → q1 → G) : G := h (c0.out e h0) (c1.out e h1)
theorem Only.bx {O : Nat} {w X : World} (h : Only O w X) (b : Nat) (hb : O ≠ b) ⦃o : Nat⦄ ⦃u : Value⦄ (hv : BoxAt w b o u) : BoxAt X b o u := h.box hb hv
theorem Only.sz {O : Nat} {w X : World} (h : Only O w X) : w.heap.size ≤ X.heap.size := Nat.le_of_eq h.size.symm
class CalmC (Q : Exit → Act → World → Prop) : Prop where
  out : Calm Q
instance {Q : Exit → Act → World → Prop} {K : Act → World → Prop} [h : CalmC Q] : CalmC (Exit.then K Q) := ⟨calm_then h.out⟩
instance {Q : Exit → Act → World → Prop} {id : Nat} [h : CalmC Q] : CalmC (Exit.inBlock id Q) := ⟨calm_block h.out⟩
instance {P : Program} {fn : Func} {R : Ending → World → Prop} : CalmC (bodyPost P fn R) := ⟨calm_body⟩
theorem rb {b c : Bool} (h : b = c) : Ending.returned (.bool b) = Ending.returned (.bool c) := h ▸ rfl
theorem BoxAt.c {w w' : World} {b o : Nat} {v : Value} (h : BoxAt w b o v) (hE : Ext w w') : w'.cell? ⟨b, o, none⟩ = some v := (BoxAt.ext hE h).1
@[reducible] def iv (x : Int) : Value := .int .i64 x
@[reducible] def pw (b o : Nat) : Value := .pointer (some ⟨b, o, none⟩)
@[reducible] def sv (b o n c : Nat) : Value := .slice (some ⟨b, o, none⟩) n c
section
variable {P : Program} {n : Nat} {L : List Value} {ws : List (Nat × Value)} {w : World} {Q : Exit → Act → World → Prop}
theorem zt {c : Operand} {x y : Code} (h : CW P x Q n L ws w) (hc : evalW L ws c = .bool true := by kernel_rfl) : CW P (.cond c x y) Q n L ws w := cw_t hc h
theorem zf {c : Operand} {x y : Code} (h : CW P y Q n L ws w) (hc : evalW L ws c = .bool false := by kernel_rfl) : CW P (.cond c x y) Q n L ws w := cw_f hc h
theorem pick_got {ks : List Nat} (h : (pickW ws ks).isSome = true) : pickW ws ks = some ((pickW ws ks).getD []) := by
  cases q : pickW ws ks with
  | none => rw [q] at h; cases h
  | some v => rfl
theorem zl {R : List (Nat × Value) → World → Prop} (hJ : ∀ L' ws' w', R ws' w' → QW Q .normal n L' ws' w') (ks : List Nat) (h : R ((pickW ws ks).getD []) w) (hp : (pickW ws ks).isSome = true := by kernel_rfl) : QW Q .normal n L ws w := qw_leaf hJ ks (pick_got hp) h
theorem zr {Inv : List (Nat × Value) → World → Nat → Prop} {m : Nat} (ks : List Nat) (m' : Nat) (hlt : m' < m) (h : Inv ((pickW ws ks).getD []) w m') (hp : (pickW ws ks).isSome = true := by kernel_rfl) : QW (Exit.then (LoopK n Inv m) Q) .normal n L ws w := qw_round ks (pick_got hp) m' hlt h
theorem zc {x y : Code} (h : CW P x (Exit.then (y.wp P Q) Q) n L ws w) : CW P (.seq x y) Q n L ws w := cw_seq h
theorem zp {id : Nat} {l : List Oper} (h : PL P l l Q n L ws w) : CW P (.region id l.toArray false) Q n L ws w := cw_plain h
theorem zq {y : Code} (h : CW P y Q n L ws w) : QW (Exit.then (y.wp P Q) Q) .normal n L ws w := qw_then h
theorem zn {ops : List Oper} {y : Code} (h : CW P y Q n L ws w) : PL P ops [] (Exit.then (y.wp P Q) Q) n L ws w := pl_nil (qw_then h)
theorem sc {ev : Operand → Value} {oi : Oper} {N : Value → World → Prop} (f : FuncId) (args : Array Value) (h2 : Calls P f args w fun e w' => ∃ v, e = .returned v ∧ N v w') (h1 : (execOp ev oi).run P w = .ok (.enter f args) w := by kernel_rfl) : StepN P ev oi w N := sn_call h1 h2
theorem sw {ev : Operand → Value} {oi : Oper} {N : Value → World → Prop} (t : TypeId) (us : Array Value) (h : ∀ O X, w.heap.size = O → X.heap.size = O + 1 → Ext w X → (∀ i u, us[i]? = some u → BoxAt X O i u) → N (.pointer (some ⟨O, 0, none⟩)) X)
    (h1 : (execOp ev oi).run P w = .ok (.value (.pointer (some ⟨w.heap.size, 0, none⟩))) (w.alloc (.cells us t)) := by kernel_rfl) : StepN P ev oi w N := sn_new h1 h
variable {ops0 ops : Array Oper} {Q' : Exit → Act → World → Prop} {T9 : List Row} {S : World → Prop} {fuel : Nat} {done : List Nat}
theorem pD {rest : List Oper} {ops : List Oper} {o o2 : Oper} {d d2 : Nat} (v v2 : Value) (h : PL P ops rest Q n L ((d2, v2) :: (d, v) :: ws) w) (hdst : o.dst = some d := by rfl) (hok : dstOk n ops = true := by kernel_rfl) (hd : Nat.blt d n = true := by kernel_rfl) (hw : wantP ops L ws o.guard = true := by kernel_rfl)
    (hr : (execOp (evalW L ws) o).run P w = .ok (.value v) w := by kernel_rfl) (hdst2 : o2.dst = some d2 := by rfl) (hd2 : Nat.blt d2 n = true := by kernel_rfl) (hw2 : wantP ops L ((d, v) :: ws) o2.guard = true := by kernel_rfl) (hr2 : (execOp (evalW L ((d, v) :: ws)) o2).run P w = .ok (.value v2) w := by kernel_rfl) : PL P ops (o :: o2 :: rest) Q n L ws w := pl_take v hdst hok hd hw hr (pl_take v2 hdst2 hok hd2 hw2 hr2 h)
theorem dE {id : Nat} {ops0 : Array Oper} [hQ : CalmC Q] (T : List Row) (S : World → Prop) (hS : S w.drew) (h : ∀ (ops : Array Oper) (Q' : Exit → Act → World → Prop) (X : World), Ext w X → L.length = n → Reg P ops0 ops Q' L T → Shut (∀ ws w, QW Q .normal n L ws w → QW Q' .normal n L ws w) → WD P ops Q' S L ops0.size [] ws X)
    (hm : P.follows .mixedOrders = true := by kernel_rfl) (ht : tableR ops0 = T := by kernel_rfl) (hg : goodT n ops0.size T = true := by kernel_rfl) (hs : Region.noSelect ops0 = true := by kernel_rfl) : CW P (.region id ops0 true) Q n L ws w := cw_draw T S hm ht hg hs hQ.out hS h
class AtL (ws : List (Nat × Value)) (ks : List Nat) (ws' : outParam (List (Nat × Value))) : Prop where
  out : True
instance : AtL ws [] [] := ⟨trivial⟩
instance {k : Nat} {ks : List Nat} {v : Value} {r : List (Nat × Value)} [At1 ws k v] [AtL ws ks r] : AtL ws (k :: ks) ((k, v) :: r) := ⟨trivial⟩
theorem cK (ks : List Nat) {ws' : List (Nat × Value)} {c : Code} [AtL ws ks ws'] (h : ∀ L', CW P c Q n L' ws' w) (hp : pickW ws ks = some ws' := by kernel_rfl) : CW P c Q n L ws w := cw_clean ks hp h
theorem wW (i : Nat) (v : Value) (j : Nat) (v2 : Value) {d d2 : Nat} {oi o2 : Oper} {r r2 : List Oper} (hR : Reg P ops0 ops Q' L T9) (hS : S w) (h : WD P ops Q' S L fuel (j :: i :: done) ((d2, v2) :: (d, v) :: ws) w) (hi : ops0.toList.drop i = oi :: r := by rfl) (hr : readyT T9 done i = true := by kernel_rfl) (hdst : oi.dst = some d := by rfl) (hw : wantedW T9 L ws oi.guard = true := by kernel_rfl)
    (hy : ∀ w, S w → (execOp (evalW L ws) oi).run P w = .ok (.value v) w := by intro w _; kernel_rfl) (hj : ops0.toList.drop j = o2 :: r2 := by rfl) (hr2 : readyT T9 (i :: done) j = true := by kernel_rfl) (hdst2 : o2.dst = some d2 := by rfl) (hw2 : wantedW T9 L ((d, v) :: ws) o2.guard = true := by kernel_rfl) (hy2 : ∀ w, S w → (execOp (evalW L ((d, v) :: ws)) o2).run P w = .ok (.value v2) w := by intro w _; kernel_rfl) : WD P ops Q' S L (fuel + 1 + 1) done ws w := wd_take i v hR hi hr hdst hw hy hS (wd_take j v2 hR hj hr2 hdst2 hw2 hy2 hS h)
theorem wC (i : Nat) (f : FuncId) (args : Array Value) {oi : Oper} {r : List Oper} (hR : Reg P ops0 ops Q' L T9) (h2 : Calls P f args w fun e w' => ∃ v, e = .returned v ∧ (S w' ∧ WD P ops Q' S L fuel (i :: done) (putW oi.dst v ws) w')) (hi : ops0.toList.drop i = oi :: r := by rfl) (hr : upT done (numbered T9 0) = [i] := by kernel_rfl) (hr2 : readyT T9 done i = true := by kernel_rfl)
    (hw : wantedW T9 L ws oi.guard = true := by kernel_rfl) (h1 : (execOp (evalW L ws) oi).run P w = .ok (.enter f args) w := by kernel_rfl) : WD P ops Q' S L (fuel + 1) done ws w := wd_step i hR hi hr hr2 hw (sn_call h1 h2)
theorem wN (i : Nat) (t : TypeId) (us : Array Value) {oi : Oper} {r : List Oper} (hR : Reg P ops0 ops Q' L T9) (h : ∀ O X, w.heap.size = O → X.heap.size = O + 1 → Ext w X → (∀ i u, us[i]? = some u → BoxAt X O i u) → (S X ∧ WD P ops Q' S L fuel (i :: done) (putW oi.dst (.pointer (some ⟨O, 0, none⟩)) ws) X)) (hi : ops0.toList.drop i = oi :: r := by rfl) (hr : upT done (numbered T9 0) = [i] := by kernel_rfl) (hr2 : readyT T9 done i = true := by kernel_rfl)
    (hw : wantedW T9 L ws oi.guard = true := by kernel_rfl) (h1 : (execOp (evalW L ws) oi).run P w = .ok (.value (.pointer (some ⟨w.heap.size, 0, none⟩))) (w.alloc (.cells us t)) := by kernel_rfl) : WD P ops Q' S L (fuel + 1) done ws w := wd_step i hR hi hr hr2 hw (sn_new h1 h)
theorem we (hL : L.length = n) (hR : Reg P ops0 ops Q' L T9) (hK : Shut (∀ ws w, QW Q .normal n L ws w → QW Q' .normal n L ws w)) (h : QW Q .normal n L ws w) (hd : upT done (numbered T9 0) = [] := by kernel_rfl) : WD P ops Q' S L fuel done ws w := wd_end hL hR hK hd h
theorem zw (i j : Nat) {oi oj : Oper} {r s : List Oper} (hR : Reg P ops0 ops Q' L T9)
    (h1 : StepN P (evalW L ws) oi w fun v w' => S w' ∧ WD P ops Q' S L fuel (i :: done) (putW oi.dst v ws) w') (h2 : StepN P (evalW L ws) oj w fun v w' => S w' ∧ WD P ops Q' S L fuel (j :: done) (putW oj.dst v ws) w')
    (hi : ops0.toList.drop i = oi :: r := by rfl) (hj : ops0.toList.drop j = oj :: s := by rfl) (hr : upT done (numbered T9 0) = [i, j] := by kernel_rfl) (hr2 : readyT T9 done i = true := by kernel_rfl)
    (hwi : wantedW T9 L ws oi.guard = true := by kernel_rfl) (hwj : wantedW T9 L ws oj.guard = true := by kernel_rfl) : WD P ops Q' S L (fuel + 1) done ws w := wd_two i j hR hi hj hr hr2 hwi hwj h1 h2
end
end Go.Proofs.YtfmoabgjaclkpaaGreatDoor

namespace Go.Proofs.YtfmoabgjaclkpaaGreatDoor
open Go.RowKit
section
variable {P : Program} {ev : Operand → Value} {o : Oper} {w : World}
theorem ex_load {t : TypeId} {x : Operand} {p v : Value} (hop : o.op = .load t x) (hx : ev x = p) (h : (Instr.loadAt t p).run P w = .ok v w) : (execOp ev o).run P w = .ok (.value v) w := by
 simp [execOp, hop, hx, h, Result.andThen]
theorem ex_store {t : TypeId} {x y : Operand} {p v : Value} {w' : World} (hop : o.op = .store t x y) (hx : ev x = p) (hy : ev y = v) (h : (Instr.storeAt t p v).run P w = .ok () w') : (execOp ev o).run P w = .ok .skip w' := by
 simp [execOp, hop, hx, hy, h, Result.andThen]
theorem ex_index {t : TypeId} {x y : Operand} {p i v : Value} (hop : o.op = .indexAddr t x y) (hx : ev x = p) (hy : ev y = i) (h : (Instr.indexAt t p i).run P w = .ok v w) : (execOp ev o).run P w = .ok (.value v) w := by
 simp [execOp, hop, hx, hy, h, Result.andThen]
theorem ex_slice {t : TypeId} {x : Operand} {lo hi mx : Option Operand} {lv hv mv : Option Value} {p v : Value} (hop : o.op = .slice t x lo hi mx) (hx : ev x = p) (h1 : lo.map ev = lv) (h2 : hi.map ev = hv) (h3 : mx.map ev = mv)
  (h : (Instr.sliceAt t p lv hv mv).run P w = .ok v w) : (execOp ev o).run P w = .ok (.value v) w := by
 simp [execOp, hop, hx, h1, h2, h3, h, Result.andThen]
theorem ev_wrap {a : Int} {r : Result Next} (h : r = .ok (.value (.int .i64 (IntKind.i64.wrap a))) w) (h0 : -9223372036854775808 ≤ a) (h1 : a ≤ 9223372036854775807) : r = .ok (.value (.int .i64 a)) w := by
 have e : IntKind.i64.wrap a = a := by rw [IntKind.wrap_i64]; omega
 rw [h, e]
theorem ev_int {a b : Int} {k : IntKind} {r : Result Next} (h : r = .ok (.value (.int k a)) w) (e : a = b) : r = .ok (.value (.int k b)) w := by rw [h, e]
theorem ev_bool {b b' : Bool} {r : Result Next} (h : r = .ok (.value (.bool b)) w) (e : b = b') : r = .ok (.value (.bool b')) w := by rw [h, e]
theorem ev_dec {p : Prop} [Decidable p] {r : Result Next} (h : r = .ok (.value (.bool (decide p))) w) (e : p) : r = .ok (.value (.bool true)) w := by rw [h, decide_eq_true e]
theorem ev_ndec {p : Prop} [Decidable p] {r : Result Next} (h : r = .ok (.value (.bool (decide p))) w) (e : ¬ p) : r = .ok (.value (.bool false)) w := by rw [h, decide_eq_false e]
theorem ev_eq {a b : Int} {r : Result Next} (h : r = .ok (.value (.bool (a == b))) w) (e : a = b) : r = .ok (.value (.bool true)) w := by rw [h, e]; simp
theorem ev_neq {a b : Int} {r : Result Next} (h : r = .ok (.value (.bool (a == b))) w) (e : a ≠ b) : r = .ok (.value (.bool false)) w := by rw [h]; simp [e]
theorem ev_ne {a b : Int} {r : Result Next} (h : r = .ok (.value (.bool (a != b))) w) (e : a ≠ b) : r = .ok (.value (.bool true)) w := by rw [h]; simp [e]
theorem ev_nne {a b : Int} {r : Result Next} (h : r = .ok (.value (.bool (a != b))) w) (e : a = b) : r = .ok (.value (.bool false)) w := by rw [h, e]; simp
end
theorem res_ld {P : Program} {t : TypeId} {ad : Addr} {v : Value} {w : World} (h : (Instr.loadAt t (.pointer (some ad))).run P w = .ok v w) : (loadVar t ad).run P w = .ok v w := h
theorem ex_bin {P : Program} {ev : Operand → Value} {o : Oper} {w : World} {op : BinOp} {t t2 : TypeId} {x y : Operand} {a b : Int} {v : Value} (hop : o.op = .binOp op t x y t2) (hx : ev x = .int .i64 a) (hy : ev y = .int .i64 b)
  (h : (binOp op t (.int .i64 a) (.int .i64 b)).run P w = .ok v w) : (execOp ev o).run P w = .ok (.value v) w := by
 have e : (eqGuard op t x y (.int .i64 a) (.int .i64 b)).run P w = .ok () w := by cases op <;> simp [eqGuard]
 simp [execOp, hop, hx, hy, e, h, Result.andThen]
theorem bin_rem {P : Program} {w : World} {t : TypeId} {a b : Nat} (hb : 0 < b) : (binOp .rem t (.int .i64 a) (.int .i64 b)).run P w = .ok (.int .i64 ((a % b : Nat) : Int)) w := by
 have h0 : ¬ ((b : Int) = 0) := by omega
 have e : (a : Int).tmod (b : Int) = ((a % b : Nat) : Int) := by rw [Int.tmod_eq_emod_of_nonneg (by omega)]; simp
 simp only [binOp, Op.intDiv, if_neg h0, e]
 simp
theorem bin_tmod {P : Program} {w : World} {t : TypeId} {a b : Int} (hb : b ≠ 0) : (binOp .rem t (.int .i64 a) (.int .i64 b)).run P w = .ok (.int .i64 (a.tmod b)) w := by
 simp only [binOp, Op.intDiv, if_neg hb]
 simp
theorem bin_tdiv {P : Program} {w : World} {t : TypeId} {a b : Int} (hb : 0 < b) (h0 : -9223372036854775808 ≤ a) (h1 : a ≤ 9223372036854775807) : (binOp .quo t (.int .i64 a) (.int .i64 b)).run P w = .ok (.int .i64 (a.tdiv b)) w := by
 have hne : ¬ b = 0 := by omega
 have h2 : (a.tdiv b).natAbs ≤ a.natAbs := by rw [Int.natAbs_tdiv]; exact Nat.div_le_self _ _
 have e2 : IntKind.i64.wrap (a.tdiv b) = a.tdiv b := by
  rw [IntKind.wrap_i64]
  have h3 : 0 ≤ a → 0 ≤ a.tdiv b := fun h => Int.tdiv_nonneg h (by omega)
  have h4 : a ≤ 0 → a.tdiv b ≤ 0 := fun h => by
   have := Int.tdiv_nonneg (a := -a) (b := b) (by omega) (by omega)
   rw [Int.neg_tdiv] at this; omega
  generalize a.tdiv b = q at h2 h3 h4 ⊢
  omega
 simp only [binOp, Op.intDiv, if_neg hne, e2]
 simp
structure Turns (O : Nat) (w X : World) : Prop where
 size : X.heap.size = w.heap.size
 cell' : ∀ p : Addr, p.block ≠ O → X.cell? p = w.cell? p
 froz' : ∀ p : Addr, X.frozen? p = w.frozen? p
 ext' : ∀ a, Ext a w → a.heap.size ≤ O → Ext a X
 heap' : ∀ k, k ≠ O → X.heap[k]? = w.heap[k]?
 oth' : ∀ o : Obj, w.heap[O]? = some o → o.isCells = false → X.heap[O]? = some o
theorem Turns.ext {O : Nat} {a w X : World} (h : Turns O w X) (hE : Ext a w) (hO : a.heap.size ≤ O) : Ext a X := h.ext' a hE hO
theorem Turns.cell {O : Nat} {w X : World} (h : Turns O w X) {p : Addr} {u : Value} (hb : O ≠ p.block) (hv : w.cell? p = some u) : X.cell? p = some u := by
 rw [h.cell' p (fun e => hb e.symm)]; exact hv
theorem Turns.va {O : Nat} {w X : World} (h : Turns O w X) {b o : Nat} {l : List Int} (hb : O ≠ b) (hv : VA w b o l) : VA X b o l := ⟨fun i hi => h.cell hb (hv.1 i hi), hv.2⟩
theorem Turns.box {O : Nat} {w X : World} (h : Turns O w X) {b o : Nat} {u : Value} (hb : O ≠ b) (hv : BoxAt w b o u) : BoxAt X b o u := ⟨h.cell hb hv.1, by rw [h.froz']; exact hv.2⟩
theorem Turns.rows {O : Nat} {w X : World} (h : Turns O w X) {b : Nat} {l : List Int} (hb : O ≠ b) (hv : RowsAt w b l) : RowsAt X b l := ⟨hv.1, fun i hi => h.cell hb (hv.cell hi), fun i hi => by rw [h.froz']; exact hv.free hi⟩
theorem turns_set (w : World) (O j : Nat) (v : Value) : Turns O w (w.setCell ⟨O, j, none⟩ v) :=
 ⟨by simp, fun p hp => World.cell?_setCell_other w _ _ _ (fun e => hp (congrArg Addr.block e).symm), fun p => by simp [go_sem], fun _ hE hO => hE.setCell hO v, fun k hk => Below.heap_setCell _ _ _ _ (fun e => hk e), fun o ho hc => by
  have h2 : (w.setCell ⟨O, j, none⟩ v).heap[O]? = _ := Array.getElem?_modify
  rw [h2, if_pos rfl, ho]
  cases o <;> first | rfl | simp [Obj.isCells] at hc⟩
theorem Turns.trans {O : Nat} {a b c : World} (h : Turns O a b) (k : Turns O b c) : Turns O a c :=
 ⟨k.size.trans h.size, fun p hp => (k.cell' p hp).trans (h.cell' p hp), fun p => (k.froz' p).trans (h.froz' p), fun x hE hO => k.ext' x (h.ext' x hE hO) hO, fun i hi => (k.heap' i hi).trans (h.heap' i hi), fun o ho hc => k.oth' o (h.oth' o ho hc) hc⟩
section
variable {P : Program} {ev : Operand → Value} {oi : Oper} {w : World} {N : Value → World → Prop}
theorem sn_set {O j : Nat} {u v : Value} (h1 : (execOp ev oi).run P w = .ok .skip (w.setCell ⟨O, j, none⟩ v)) (hO : BoxAt w O j u)
  (h : ∀ X, Turns O w X → BoxAt X O j v → (∀ i x, i ≠ j → BoxAt w O i x → BoxAt X O i x) → N undef X) : StepN P ev oi w N := by
 have hB : BoxAt (w.setCell ⟨O, j, none⟩ v) O j v := ⟨by have := hO.1; simp [go_sem, this], by have := hO.2; simpa [go_sem] using this⟩
 exact sn_skp h1 (h _ (turns_set _ _ _ _) hB fun i x hi hx => ⟨by rw [World.cell?_setCell_other w _ _ _ (fun e => hi (congrArg Addr.off e).symm)]; exact hx.1, by simp [go_sem, hx.2]⟩)
theorem sn_set2 {O j : Nat} {u u' v v' : Value} (h1 : (execOp ev oi).run P w = .ok .skip ((w.setCell ⟨O, j, none⟩ v).setCell ⟨O, j + 1, none⟩ v')) (hO : BoxAt w O j u) (hO' : BoxAt w O (j + 1) u')
  (h : ∀ X, Turns O w X → BoxAt X O j v → BoxAt X O (j + 1) v' → (∀ i x, i ≠ j → i ≠ j + 1 → BoxAt w O i x → BoxAt X O i x) → N undef X) : StepN P ev oi w N := by
 have k : ∀ (W : World) (j : Nat) (u v : Value), BoxAt W O j u → BoxAt (W.setCell ⟨O, j, none⟩ v) O j v := fun W j u v hO => ⟨by have := hO.1; simp [go_sem, this], by have := hO.2; simpa [go_sem] using this⟩
 have k2 : ∀ (W : World) (j i : Nat) (x v : Value), i ≠ j → BoxAt W O i x → BoxAt (W.setCell ⟨O, j, none⟩ v) O i x := fun W j i x v hi hx => ⟨by rw [World.cell?_setCell_other W _ _ _ (fun e => hi (congrArg Addr.off e).symm)]; exact hx.1, by simp [go_sem, hx.2]⟩
 exact sn_skp h1 (h _ ((turns_set _ _ _ _).trans (turns_set _ _ _ _)) (k2 _ _ _ _ _ (by omega) (k _ _ _ _ hO)) (k _ _ _ _ (k2 _ _ _ _ _ (by omega) hO')) fun i x hi hi' hx => k2 _ _ _ _ _ hi' (k2 _ _ _ _ _ hi hx))
end
section
variable {P : Program} {n : Nat} {L : List Value} {ws : List (Nat × Value)} {w : World} {Q : Exit → Act → World → Prop}
theorem calm_scope (h : Calm Q) : Calm (Exit.noGoto Q) := fun c d v a w h' => h c d v a w h'
end
theorem Turns.bx {O : Nat} {w X : World} (h : Turns O w X) (b : Nat) (hb : O ≠ b) ⦃o : Nat⦄ ⦃u : Value⦄ (hv : BoxAt w b o u) : BoxAt X b o u := h.box hb hv
section
variable {P : Program} {ev : Operand → Value} {oi : Oper} {w : World} {N : Value → World → Prop} {t : TypeId} {x y : Operand} {u : Value}
theorem zE (O j : Nat) (v : Value) (hst : (Instr.storeAt t (.pointer (some ⟨O, j, none⟩)) v).run P w = .ok () (w.setCell ⟨O, j, none⟩ v)) (hO : BoxAt w O j u) (h : ∀ X, Turns O w X → BoxAt X O j v → (∀ i x, i ≠ j → BoxAt w O i x → BoxAt X O i x) → N undef X) (hop : oi.op = .store t x y := by rfl) (hx : ev x = .pointer (some ⟨O, j, none⟩) := by kernel_rfl) (hy : ev y = v := by kernel_rfl) : StepN P ev oi w N := sn_set (ex_store hop hx hy hst) hO h
end
instance {Q : Exit → Act → World → Prop} [h : CalmC Q] : CalmC (Exit.noGoto Q) := ⟨calm_scope h.out⟩
section
variable {P : Program} {ev : Operand → Value} {o : Oper} {w : World}
theorem eE (a b : Int) {r : Result Next} (e : a = b) (h : r = .ok (.value (.bool (a == b))) w := by kernel_rfl) : r = .ok (.value (.bool true)) w := ev_eq h e
theorem eN (a b : Int) {r : Result Next} (e : a ≠ b) (h : r = .ok (.value (.bool (a == b))) w := by kernel_rfl) : r = .ok (.value (.bool false)) w := ev_neq h e
theorem eM (a b : Int) {r : Result Next} (e : a ≠ b) (h : r = .ok (.value (.bool (a != b))) w := by kernel_rfl) : r = .ok (.value (.bool true)) w := ev_ne h e
theorem wM {L : List Value} {ws : List (Nat × Value)} {ops0 ops : Array Oper} {Q' : Exit → Act → World → Prop} {T9 : List Row} {S : World → Prop} {fuel : Nat} {done : List Nat} (i : Nat) {d : Nat} {oi : Oper} {r : List Oper} {t : TypeId} {x : Operand} {p : Value} (v : Value) (hR : Reg P ops0 ops Q' L T9) (hy : ∀ w, S w → (Instr.loadAt t p).run P w = .ok v w) (hS : S w) (h : WD P ops Q' S L fuel (i :: done) ((d, v) :: ws) w)
    (hi : ops0.toList.drop i = oi :: r := by rfl) (hop : oi.op = .load t x := by rfl) (hx : evalW L ws x = p := by kernel_rfl) (hr : readyT T9 done i = true := by kernel_rfl) (hdst : oi.dst = some d := by rfl) (hw : wantedW T9 L ws oi.guard = true := by kernel_rfl) : WD P ops Q' S L (fuel + 1) done ws w := wd_take i v hR hi hr hdst hw (fun w hw => ex_load hop hx (hy w hw)) hS h
theorem xl {t : TypeId} {x : Operand} {p v : Value} (h : (Instr.loadAt t p).run P w = .ok v w) (hop : o.op = .load t x := by rfl) (hx : ev x = p := by kernel_rfl) : (execOp ev o).run P w = .ok (.value v) w := ex_load hop hx h
theorem xt {t : TypeId} {x y : Operand} {w' : World} (p v : Value) (h : (Instr.storeAt t p v).run P w = .ok () w') (hop : o.op = .store t x y := by rfl) (hx : ev x = p := by kernel_rfl) (hy : ev y = v := by kernel_rfl) : (execOp ev o).run P w = .ok .skip w' := ex_store hop hx hy h
theorem xi {t : TypeId} {x y : Operand} {v : Value} (p i : Value) (h : (Instr.indexAt t p i).run P w = .ok v w) (hop : o.op = .indexAddr t x y := by rfl) (hx : ev x = p := by kernel_rfl) (hy : ev y = i := by kernel_rfl) : (execOp ev o).run P w = .ok (.value v) w := ex_index hop hx hy h
theorem ed (p : Prop) [Decidable p] {r : Result Next} (e : p) (h : r = .ok (.value (.bool (decide p))) w := by kernel_rfl) : r = .ok (.value (.bool true)) w := ev_dec h e
theorem en (p : Prop) [Decidable p] {r : Result Next} (e : ¬ p) (h : r = .ok (.value (.bool (decide p))) w := by kernel_rfl) : r = .ok (.value (.bool false)) w := ev_ndec h e
theorem ew {a : Int} {r : Result Next} (h0 : -9223372036854775808 ≤ a) (h1 : a ≤ 9223372036854775807) (h : r = .ok (.value (.int .i64 (IntKind.i64.wrap a))) w := by kernel_rfl) : r = .ok (.value (.int .i64 a)) w := ev_wrap h h0 h1
end
end Go.Proofs.YtfmoabgjaclkpaaGreatDoor

namespace Go.Proofs.YtfmoabgjaclkpaaGreatDoor
open Go.RowKit
def Gro (w w' : World) : Prop := ∃ q os, w' = Go.Sort.grow (w.drewN q) os
theorem Gro.refl (w : World) : Gro w w := ⟨0, #[], by rw [Go.Sort.grow_empty]; rfl⟩
theorem Gro.trans {a b c : World} (h : Gro a b) (k : Gro b c) : Gro a c := by
 obtain ⟨q, os, rfl⟩ := h
 obtain ⟨q', os', rfl⟩ := k
 refine ⟨q + q', os ++ os', ?_⟩
 show Go.Sort.grow (Go.Sort.grow ((a.drewN q).drewN q') os) os' = _
 rw [Go.Sort.grow_grow, World.drewN_drewN]
theorem Gro.alloc (w : World) (o : Obj) : Gro w (w.alloc o) := ⟨0, #[o], by rw [Go.Sort.alloc_eq_grow]; rfl⟩
theorem Gro.drew (w : World) : Gro w w.drew := ⟨1, #[], by rw [Go.Sort.grow_empty]; rfl⟩
theorem Gro.ext {w w' : World} (h : Gro w w') : Ext w w' := by
 obtain ⟨q, os, rfl⟩ := h
 refine (Ext.drewN (Ext.refl w) q).trans ⟨rfl, rfl, rfl, by simp, fun k hk => ?_⟩
 show ((w.drewN q).heap ++ os)[k]? = _
 rw [Array.getElem?_append_left hk]
section
variable {P : Program} {n : Nat} {L : List Value} {ws : List (Nat × Value)} {w : World} {Q : Exit → Act → World → Prop}
theorem sn_newG {ev : Operand → Value} {oi : Oper} {N : Value → World → Prop} {us : Array Value} {t : TypeId} (h1 : (execOp ev oi).run P w = .ok (.value (.pointer (some ⟨w.heap.size, 0, none⟩))) (w.alloc (.cells us t)))
  (h : ∀ O X, w.heap.size = O → X.heap.size = O + 1 → Ext w X → (∀ i u, us[i]? = some u → BoxAt X O i u) → Gro w X → N (.pointer (some ⟨O, 0, none⟩)) X) : StepN P ev oi w N := by
 refine sn_eff h1 (h _ _ rfl (by simp) (Ext.alloc (Ext.refl _) _) (fun i u hu => ⟨?_, ?_⟩) (Gro.alloc _ _))
 · rw [cell_of_row _ _ i _ t (0, 0) (heap_alloc_new w _)]; exact hu
 · simp [go_sem]
theorem sn_newSG {ev : Operand → Value} {oi : Oper} {N : Value → World → Prop} {us : Array Value} {t : TypeId} {k c : Nat} (h1 : (execOp ev oi).run P w = .ok (.value (.slice (some ⟨w.heap.size, 0, none⟩) k c)) (w.alloc (.cells us t)))
  (h : ∀ O X, w.heap.size = O → X.heap.size = O + 1 → Ext w X → (∀ i u, us[i]? = some u → BoxAt X O i u) → Gro w X → N (.slice (some ⟨O, 0, none⟩) k c) X) : StepN P ev oi w N := by
 refine sn_eff h1 (h _ _ rfl (by simp) (Ext.alloc (Ext.refl _) _) (fun i u hu => ⟨?_, ?_⟩) (Gro.alloc _ _))
 · rw [cell_of_row _ _ i _ t (0, 0) (heap_alloc_new w _)]; exact hu
 · simp [go_sem]
theorem cw_drawG {id : Nat} {ops0 : Array Oper} (T : List Row) (S : World → Prop) (hm : P.follows .mixedOrders = true) (ht : tableR ops0 = T) (hg : goodT n ops0.size T = true) (hs : Region.noSelect ops0 = true) (hQ : Calm Q) (hS : S w.drew)
  (h : ∀ (ops : Array Oper) (Q' : Exit → Act → World → Prop) (X : World), Gro w X → Ext w X → L.length = n → Reg P ops0 ops Q' L T → Shut (∀ ws w, QW Q .normal n L ws w → QW Q' .normal n L ws w) → WD P ops Q' S L ops0.size [] ws X) : CW P (.region id ops0 true) Q n L ws w := ⟨fun b => by
 refine wp_region_held_drew hm hS fun hS => ?_
 exact (h ops0 Q _ (Gro.drew _) (Ext.drew (Ext.refl _)) b.1 ⟨rfl, ht, by rw [b.1]; exact hg, hs, hQ⟩ (fun _ _ h => h)).out b.lt⟩
end
end Go.Proofs.YtfmoabgjaclkpaaGreatDoor

namespace Go.Proofs.YtfmoabgjaclkpaaGreatDoor
open Go.RowKit
theorem Ext.others {a b : World} (h : Ext a b) : KeepsOthers a b := ⟨h.size, fun k _ ho _ => (Below.block h k (Array.getElem?_eq_some_iff.1 ho).1).trans ho⟩
structure KeepX (n₀ : Nat) (X : Nat → Prop) (A B : World) : Prop where
 size : A.heap.size ≤ B.heap.size
 block : ∀ k, k < n₀ → ¬ X k → B.heap[k]? = A.heap[k]?
theorem KeepX.refl (n₀ : Nat) (X : Nat → Prop) (A : World) : KeepX n₀ X A A := ⟨Nat.le_refl _, fun _ _ _ => rfl⟩
theorem KeepX.trans {n₀ : Nat} {X : Nat → Prop} {A B C : World} (h : KeepX n₀ X A B) (k : KeepX n₀ X B C) : KeepX n₀ X A C :=
 ⟨T h.size k.size, fun i hi hx => (k.block i hi hx).trans (h.block i hi hx)⟩
theorem KeepX.of_below {n₀ : Nat} {X : Nat → Prop} {A B : World} (h : Below n₀ A B) : KeepX n₀ X A B := ⟨h.size, fun k hk _ => h.block k hk⟩
theorem KeepX.of_ext {n₀ : Nat} {X : Nat → Prop} {A B : World} (h : Ext A B) (hn : n₀ ≤ A.heap.size) : KeepX n₀ X A B := KeepX.of_below (Below.mono h hn)
theorem KeepX.cell {n₀ : Nat} {X : Nat → Prop} {A B : World} (h : KeepX n₀ X A B) {b o : Nat} (hb : b < n₀) (hx : ¬ X b) : B.cell? ⟨b, o, none⟩ = A.cell? ⟨b, o, none⟩ := World.cell?_of_block (w := A) (h.block b hb hx)
theorem KeepX.setCell {n₀ : Nat} {X : Nat → Prop} (A : World) {p : Addr} (hp : X p.block) (u : Value) : KeepX n₀ X A (A.setCell p u) :=
 ⟨by simp [World.setCell], fun k _ hx => Below.heap_setCell _ _ _ _ (fun e => hx (e ▸ hp))⟩
theorem KeepX.putObj {n₀ : Nat} {X : Nat → Prop} {w : World} (hn : n₀ ≤ w.heap.size) (W : World) (l : Nat) (o o' : Obj) (hl : w.heap.size ≤ l) (h : W.heap[l]? = some o) (hc : o.isCells = false) (hw : o.isWalk = false) : KeepX n₀ X W (W.putObj l o') :=
 KeepX.of_below (belowK_b hn W l o o' hl h hc hw)
end Go.Proofs.YtfmoabgjaclkpaaGreatDoor

namespace Go.Proofs.YtfmoabgjaclkpaaGreatDoor
open Go.RowKit
def p2 (n : Nat) : Nat := 2 ^ n
theorem Ext.grown {w0 w w' : World} {B : Nat} (h : Ext w0 w) (hg : w.grownBy w' (some B)) (hB : w0.heap.size ≤ B) : Ext w0 w' := Below.grown h hg h.size (fun k e => by cases e; exact hB)
theorem grown_cell {w w' : World} {B : Nat} (hg : w.grownBy w' (some B)) {a : Addr} {v : Value} (h : w.cell? a = some v) (hne : a.block ≠ B) : w'.cell? a = some v := hg.cell h (fun e => hne (by simpa using e))
theorem grown_free {w w' : World} {B : Nat} (hg : w.grownBy w' (some B)) {a : Addr} {v : Value} (h : w.cell? a = some v) (hf : w.frozen? a = false) (hne : a.block ≠ B) : w'.frozen? a = false :=
 (World.frozen?_of_block (hg.block a.block (World.block_lt_of_cell? w a h) (fun e => hne (by simpa using e)))).trans hf
theorem BoxAt.grown {w w' : World} {B : Nat} (hg : w.grownBy w' (some B)) {b o : Nat} {v : Value} (h : BoxAt w b o v) (hne : b ≠ B) : BoxAt w' b o v := ⟨grown_cell hg h.1 hne, grown_free hg h.1 h.2 hne⟩
def Mk (w : World) (O B : Nat) (wr : World) : Prop :=
 (∃ L, Globe.validL L = true ∧ RowsAt wr B L) ∧ wr.cell? ⟨O, 0, none⟩ = some (.slice (some ⟨B, 0, none⟩) 24 24) ∧ BoxAt wr w.heap.size 0 (.slice none 0 0) ∧ Ext w wr
theorem Mk.ext {w w1 w2 : World} {O B : Nat} (h : Mk w O B w1) (hE : Ext w1 w2) : Mk w O B w2 :=
 ⟨by obtain ⟨L, hv, hr⟩ := h.1; exact ⟨L, hv, hr.ext hE⟩, hE.cell h.2.1, BoxAt.ext hE h.2.2.1, h.2.2.2.trans hE⟩
end Go.Proofs.YtfmoabgjaclkpaaGreatDoor

namespace Go.Proofs.YtfmoabgjaclkpaaGreatDoor
open Go.RowKit
theorem Ext.grownNone {w w' : World} (h : Ext w w') : w.grownBy w' none := ⟨h.os, h.tape, h.output, Below.size h, fun k hk _ => Below.block h k hk⟩
theorem own_ext {w w' : World} {base : Nat} {e : TypeId} {size : Nat} {v : Value} {n : Nat} {xs : List Value} (h : w.ownsRow base e size v n xs) (hE : Ext w w') : w'.ownsRow base e size v n xs :=
 h.kept hE.grownNone (by cases v.ownBlock <;> simp)
theorem Ext.own {w0 w w' : World} {e : TypeId} {size : Nat} {v : Value} {n : Nat} {xs : List Value} (h : Ext w0 w) (hr : w.ownsRow w0.heap.size e size v n xs) (hg : w.grownBy w' v.ownBlock) : Ext w0 w' :=
 Below.grown h hg h.size (fun k e => (hr.lt k e).1)
theorem VA.grownR {w w' : World} {r : Option Nat} {b o : Nat} {l : List Int} (h : VA w b o l) (hg : w.grownBy w' r) (hne : r ≠ some b) : VA w' b o l := ⟨fun i hi => hg.cell (h.1 i hi) (fun e => hne e.symm), h.2⟩
theorem BoxAt.grownR {w w' : World} {r : Option Nat} {b o : Nat} {v : Value} (h : BoxAt w b o v) (hg : w.grownBy w' r) (hne : r ≠ some b) : BoxAt w' b o v :=
 ⟨hg.cell h.1 (fun e => hne e.symm), (World.frozen?_of_block (hg.block b (World.block_lt_of_cell? w _ h.1) (fun e => hne e.symm))).trans h.2⟩
theorem Ext.own' {w0 w w' : World} {base : Nat} {e : TypeId} {size : Nat} {v : Value} {n : Nat} {xs : List Value} (h : Ext w0 w) (hr : w.ownsRow base e size v n xs) (hb : w0.heap.size ≤ base) (hg : w.grownBy w' v.ownBlock) : Ext w0 w' :=
 Below.grown h hg h.size (fun k e => T hb (hr.lt k e).1)
end Go.Proofs.YtfmoabgjaclkpaaGreatDoor

namespace Go.Proofs.YtfmoabgjaclkpaaGreatDoor
open Go.RowKit
def recOf (a : Act) (ps : Array Tmp) (assign body : Code) (fn : FuncId) (D : Nat) (st : LoopState) (pe : Option Code) : Loop := { state := st, pending := pe, fn, tmps := a.tmps, params := ps, assign, body, defers := D }
theorem leaves_marks {F : Fence} {n : Nat} {P : Program} {fn : Func} {tmps : Array Value} {R : Ending → World → Prop} (n₀ : Nat) (Pw : World → Prop)
  (hP : ∀ D W, n₀ ≤ D → Pw W → W.heap[D]? = some (.deferred (some [])) → Pw (W.putObj D (.deferred none))) (hend : ∀ W, Pw W → LeavesIn F n P fn tmps R [] .returning W) :
  ∀ (Ds : List Nat) (W : World), Ds.Nodup → (∀ D ∈ Ds, n₀ ≤ D ∧ W.heap[D]? = some (.deferred (some []))) → Pw W → LeavesInM F n P fn tmps R (Ds.map fun D => { target := .collected D, args := #[] }) .returning W
 | [], W, _, _, h => hend W h
 | D :: r, W, hn, hd, h => by
  obtain ⟨hD, hn'⟩ := List.nodup_cons.1 hn
  obtain ⟨h0, h1⟩ := hd D (by simp)
  refine ⟨by simp, .inl ⟨D, _, rfl, run_takeDeferred h1, ?_⟩⟩
  refine leaves_marks n₀ Pw hP hend r _ hn' (fun D' hD' => ?_) (hP D W h0 h h1)
  obtain ⟨q0, q1⟩ := hd D' (by simp [hD'])
  exact ⟨q0, (World.putObj_heap_other (fun e => hD (by rw [← e]; exact hD'))).trans q1⟩
end Go.Proofs.YtfmoabgjaclkpaaGreatDoor

namespace Go.Proofs.YtfmoabgjaclkpaaGreatDoor
open Go.RowKit
structure Rep (α : Type) where
 rel : World → List Value → α → List Nat → Prop
 keep : ∀ {w w' : World} {c : List Value} {x : α} {F : List Nat}, rel w c x F → (∀ b ∈ F, ∀ o u, w.cell? ⟨b, o, none⟩ = some u → w'.cell? ⟨b, o, none⟩ = some u) → rel w' c x F
 lt : ∀ {w : World} {c : List Value} {x : α} {F : List Nat}, rel w c x F → ∀ b ∈ F, b < w.heap.size
theorem Rep.ext {α : Type} (R : Rep α) {w w' : World} {c : List Value} {x : α} {F : List Nat} (h : R.rel w c x F) (hE : Ext w w') : R.rel w' c x F := R.keep h fun _ _ _ _ hu => hE.cell hu
def OwnL {α : Type} (R : Rep α) (n₀ : Nat) (e : TypeId) (size : Nat) (v : Value) (w : World) (l : List α) : Prop :=
 ∃ cs : List (List Value), cs.length = l.length ∧ (∀ c ∈ cs, c.length = size) ∧ w.ownsRow n₀ e size v l.length cs.flatten ∧
  ∀ (j : Nat) x c, l[j]? = some x → cs[j]? = some c → ∃ F, R.rel w c x F ∧ ∀ b ∈ F, v.ownBlock ≠ some b
structure Grew (n₀ : Nat) (w w' : World) : Prop where
 size : w.heap.size ≤ w'.heap.size
 ext : ∀ U, Ext U w → U.heap.size ≤ n₀ → Ext U w'
theorem OwnL.nil {α : Type} (R : Rep α) (n₀ : Nat) (e : TypeId) (size : Nat) (w : World) : OwnL R n₀ e size (.slice none 0 0) w [] := ⟨[], rfl, (fun c hc => by cases hc), World.ownsRow_nil w n₀ e size, (fun j x c hx => by simp at hx)⟩
theorem OwnL.ext {α : Type} {R : Rep α} {n₀ : Nat} {e : TypeId} {size : Nat} {v : Value} {w w' : World} {l : List α} (h : OwnL R n₀ e size v w l) (hE : Ext w w') : OwnL R n₀ e size v w' l := by
 obtain ⟨cs, h1, h2, h3, h4⟩ := h
 exact ⟨cs, h1, h2, own_ext h3 hE, fun j x c hx hc => by obtain ⟨F, q1, q2⟩ := h4 j x c hx hc; exact ⟨F, R.ext q1 hE, q2⟩⟩
theorem OwnL.lt {α : Type} {R : Rep α} {n₀ : Nat} {e : TypeId} {size : Nat} {v : Value} {w : World} {l : List α} (h : OwnL R n₀ e size v w l) : ∀ b, v.ownBlock = some b → b < w.heap.size := by
 obtain ⟨cs, h1, h2, h3, h4⟩ := h
 exact fun b hb => (h3.lt b hb).2
structure ElemT (P : Program) (t e : TypeId) (z : Value) (size bytes : Nat) : Prop where
 under : P.underlying t = some (.slice e)
 info : (P.info? e).map (fun i => (i.zero, i.size, i.bytes)) = some (some z, size, bytes)
 zs : z.cells.size = size
 pos : 0 < size
theorem flatten_len {size : Nat} : ∀ {cs : List (List Value)}, (∀ c ∈ cs, c.length = size) → cs.flatten.length = cs.length * size
 | [], _ => by simp
 | c :: r, h => by
  rw [List.flatten_cons, List.length_append, flatten_len (fun d hd => h d (List.mem_cons_of_mem _ hd)), h c (by simp), List.length_cons, Nat.add_mul]; omega
theorem flatten_get {size : Nat} : ∀ {cs : List (List Value)}, (∀ c ∈ cs, c.length = size) → ∀ (j : Nat) {c : List Value}, cs[j]? = some c → ∀ i, i < size → cs.flatten[j * size + i]? = c[i]?
 | [], _, j, c, h, _, _ => by simp at h
 | d :: r, h, 0, c, hc, i, hi => by
  simp at hc; subst hc
  rw [List.flatten_cons, Nat.zero_mul, Nat.zero_add, List.getElem?_append_left (by rw [h d (by simp)]; exact hi)]
 | d :: r, h, j + 1, c, hc, i, hi => by
  have hd := h d (by simp)
  rw [List.flatten_cons, List.getElem?_append_right (by rw [hd, Nat.add_mul]; omega), hd, show (j + 1) * size + i - size = j * size + i by rw [Nat.add_mul]; omega]
  exact flatten_get (fun d hd => h d (List.mem_cons_of_mem _ hd)) j (by simpa using hc) i hi
theorem cells1 {w : World} {O : Nat} {x : Value} (h : w.cell? ⟨O, 0, none⟩ = some x) : ∀ j u, [x][j]? = some u → w.cell? ⟨O, j, none⟩ = some u
 | 0, u, hu => by simp at hu; subst hu; exact h
 | _ + 1, u, hu => by simp at hu
theorem OwnL.base {α : Type} {R : Rep α} {n₀ : Nat} {e : TypeId} {size : Nat} {v : Value} {w : World} {l : List α} (h : OwnL R n₀ e size v w l) : ∀ b, v.ownBlock = some b → n₀ ≤ b := by
 obtain ⟨cs, h1, h2, h3, h4⟩ := h
 exact fun b hb => (h3.lt b hb).1
theorem sn_newS0 {P : Program} {ev : Operand → Value} {oi : Oper} {w : World} {N : Value → World → Prop} {t : TypeId} (h1 : (execOp ev oi).run P w = .ok (.value (.slice (some ⟨w.heap.size, 0, none⟩) 0 0)) (w.alloc (.cells #[] t)))
  (h : ∀ O X, w.heap.size = O → X.heap.size = O + 1 → Ext w X → X.heap[O]? = some (.cells #[] t (0, 0)) → N (.slice (some ⟨O, 0, none⟩) 0 0) X) : StepN P ev oi w N :=
 sn_eff h1 (h _ _ rfl (by simp) (Ext.alloc (Ext.refl _) _) (heap_alloc_new w _))
theorem own_empty {w : World} {base O size : Nat} {e : TypeId} (h : w.heap[O]? = some (.cells #[] e (0, 0))) (hb : base ≤ O) : w.ownsRow base e size (.slice (some ⟨O, 0, none⟩) 0 0) 0 [] :=
 ⟨by simp, .inr ⟨O, 0, #[], rfl, hb, h, Nat.le_refl _, by unfold maxLen; omega, by simp, by simp⟩⟩
theorem OwnL.empty {α : Type} (R : Rep α) {n₀ O : Nat} {e : TypeId} {size : Nat} {w : World} (h : w.heap[O]? = some (.cells #[] e (0, 0))) (hb : n₀ ≤ O) : OwnL R n₀ e size (.slice (some ⟨O, 0, none⟩) 0 0) w [] :=
 ⟨[], rfl, (fun c hc => by cases hc), own_empty h hb, (fun j x c hx => by simp at hx)⟩
theorem app_none {P : Program} {w : World} {t e ty : TypeId} {z : Value} {size bytes : Nat} (E : ElemT P t e z size bytes) {b : Option Addr} {n c : Nat} {a : Option Addr} {k : Nat} (h : n ≤ c) :
  (Builtin.append_ #[t, t] ty #[.slice b n c, .slice a 0 k]).run P w = .ok (.slice b n c) w := by
 obtain ⟨i, hi, hz0, hz1, hz2⟩ := info_parts E.info
 cases a <;> cases b <;> simp [Builtin.append_, run_underlying E.under, sizeOf, typeInfo, hi, Builtin.lenOf, Builtin.firstCells, loadCells, loadCellsFrom, storeCells, h]
theorem ex_append {P : Program} {ev : Operand → Value} {o : Oper} {w : World} {x y : Operand} {t1 t2 : TypeId} {v s v' : Value} {w' : World} (hop : o.op = .call { callee := .builtin .append, args := #[x, y], argTypes := #[t1, t2] }) (hx : ev x = v) (hy : ev y = s)
  (h : (Builtin.append_ #[t1, t2] o.type #[v, s]).run P w = .ok v' w') : (execOp ev o).run P w = .ok (.value v') w' := by
 simp [execOp, hop, resolve, invoke, builtin, hx, hy, h, Result.andThen]
instance {α : Type} {R : Rep α} {n₀ : Nat} {e : TypeId} {size : Nat} {v : Value} {w w' : World} {l : List α} : MvC w w' (OwnL R n₀ e size v w l) (OwnL R n₀ e size v w' l) := ⟨fun e h => h.ext e⟩
end Go.Proofs.YtfmoabgjaclkpaaGreatDoor

namespace Go.Proofs.YtfmoabgjaclkpaaGreatDoor
open Go.RowKit
def FR (r : Option Nat) : Fence := { Fence.wide with round := r }
def marks (Ds : List Nat) : List Deferred := Ds.map fun D => { target := .collected D, args := #[] }
section
variable {P : Program} {n : Nat} {L : List Value} {ws : List (Nat × Value)} {w : World} {Q : Exit → Act → World → Prop} {r : Option Nat} {m : Nat} {Ds : List Nat}
theorem calls_fr {f : FuncId} {args : Array Value} {R : Ending → World → Prop} (h : Calls P f args w R) : CallsIn (FR r) m P f args w R := (callsIn_wide (n := m)).2 h
theorem semAt_of {ev : Operand → Value} {o : Oper} {nx : Next} {w' : World} (h : (execOp ev o).run P w = .ok nx w') (hd : ∀ d, nx ≠ .defer d) : (o.semAt r ev).run P w = .ok nx w' := by
  rw [Oper.semAt_eq]
  · exact h
  · intro c hc
    simp only [execOp, hc, Sem.run_bind] at h
    cases e : (resolve ev c o.type).run P w with
    | ok d w1 => rw [e] at h; simp [Result.andThen] at h; exact hd _ h.1.symm
    | halt x w1 => rw [e] at h; simp [Result.andThen] at h
theorem StepN.wpI {ev : Operand → Value} {oi : Oper} {N : Value → World → Prop} {a : Act} {K : Act → World → Prop} (h : StepN P ev oi w N) (he : a.eval = ev) (hK : ∀ v w', N v w' → K (a.put oi.dst v) w') : Oper.wpIn (FR r) m P oi a w K Q := by
  refine ⟨fun _ _ => trivial, ?_⟩
  rw [he]
  show oi.uponIn (FR r) m P a K Q ((oi.semAt r ev).run P w)
  rcases h with ⟨v, w', h1, h3⟩ | ⟨w', h1, h3⟩ | ⟨f, args, h1, h2⟩
  · rw [semAt_of h1 (by simp), Oper.uponIn_value]; exact hK v w' h3
  · rw [semAt_of h1 (by simp), Oper.uponIn_skip]; exact hK undef w' h3
  · rw [semAt_of h1 (by simp), Oper.uponIn_enter]
    exact ⟨fun h => by simp [FR, Fence.wide] at h, calls_fr (h2.mono fun e w' ⟨v, he, hn⟩ => by subst he; exact hK v w' hn)⟩
def StepY (P : Program) (m : Nat) (ev : Operand → Value) (oi : Oper) (w : World) (N : Value → World → Prop) : Prop :=
 ∃ l fn tmps assign body, (execOp ev oi).run P w = .ok (.round l fn tmps assign body) w ∧ RoundIn Fence.wide (m - 1) P l fn tmps assign body w fun e w' => ∃ v, e = .returned v ∧ N v w'
theorem StepY.wpI {ev : Operand → Value} {oi : Oper} {N : Value → World → Prop} {a : Act} {K : Act → World → Prop} (h : StepY P m ev oi w N) (he : a.eval = ev) (hK : ∀ v w', N v w' → K (a.put oi.dst v) w') : Oper.wpIn (FR r) m P oi a w K Q := by
 refine ⟨fun _ _ => trivial, ?_⟩
 rw [he]
 show oi.uponIn (FR r) m P a K Q ((oi.semAt r ev).run P w)
 obtain ⟨l, fn, tmps, assign, body, h1, h2⟩ := h
 rw [semAt_of h1 (by simp), Oper.uponIn_round]
 exact ⟨fun h => by simp [FR, Fence.wide] at h, (RoundIn.mono h2 fun e w' ⟨v, he, hn⟩ => by subst he; exact hK v w' hn : RoundIn Fence.wide (m - 1) P l fn tmps assign body w _)⟩
theorem sy_yield {ev : Operand → Value} {oi : Oper} {x : Operand} {ys : Array Operand} {ts : Array TypeId} {l : Nat} {args : Array Value} {N : Value → World → Prop} (hop : oi.op = .call { callee := .value x, args := ys, argTypes := ts }) (hx : ev x = .func (.yield l) #[] #[]) (hy : ys.map ev = args)
  (h : YieldAt Fence.wide (m - 1) P l args w fun e w' => ∃ v, e = .returned v ∧ N v w') : StepY P m ev oi w N := by
 obtain ⟨fn, tmps, assign, body, h1, h2⟩ := h
 refine ⟨l, fn, tmps, assign, body, ?_, h2⟩
 simp only [execOp, hop, resolve, hx, hy, Sem.run_bind]
 simp [Result.andThen, invoke, h1, Deferred.ofValue]
structure ICW (P : Program) (r : Option Nat) (m : Nat) (Ds : List Nat) (c : Code) (Q : Exit → Act → World → Prop) (n : Nat) (L : List Value) (ws : List (Nat × Value)) (w : World) : Prop where
 out : Bd n L ws → c.wpIn (FR r) m P Q ⟨(setAll L ws).toArray, marks Ds⟩ w
structure IQW (Ds : List Nat) (Q : Exit → Act → World → Prop) (e : Exit) (n : Nat) (L : List Value) (ws : List (Nat × Value)) (w : World) : Prop where
 out : Bd n L ws → Q e ⟨(setAll L ws).toArray, marks Ds⟩ w
structure IPL (P : Program) (r : Option Nat) (m : Nat) (Ds : List Nat) (ops rest : List Oper) (Q : Exit → Act → World → Prop) (n : Nat) (L : List Value) (ws : List (Nat × Value)) (w : World) : Prop where
 out : Bd n L ws → wpListIn (FR r) m P ops.toArray Q rest ⟨(setAll L ws).toArray, marks Ds⟩ w
def IBody (m : Nat) (P : Program) (fn : Func) (R : Ending → World → Prop) : Exit → Act → World → Prop
 | .normal, a, w => bodyPostM Fence.wide m P fn R .normal a w
 | .ret, a, w => bodyPostM Fence.wide m P fn R .ret a w
 | _, _, _ => False
theorem icalls {f : FuncId} {fn : Func} {c : Code} {av : List Value} {R : Ending → World → Prop} (n : Nat) (ws : List (Nat × Value)) (hf : P.funcs[f]? = some fn) (hb : fn.body = some c) (hn : fn.ntmps = n)
  (he : av ++ List.replicate (n - av.length) undef = setAll (List.replicate n undef) ws) (hl : ws.all (fun p => Nat.blt p.1 n) = true)
  (h : ∀ L m, ICW P none m [] c (IBody m P fn R) n L ws w) : CallsIn Fence.wide m P f av.toArray w R := by
 refine callsIn_of_wp_marks hf hb trivial ?_ rfl
 have e : (av.toArray ++ Array.replicate (fn.ntmps - av.toArray.size) undef : Array Value) = (setAll (List.replicate n undef) ws).toArray := by
  rw [hn, ← he]; simp
 rw [e]
 refine Go.wpIn_mono ((h _ m).out ⟨List.length_replicate, fun p hp => Nat.blt_eq.mp (List.all_eq_true.1 hl p hp)⟩) fun e a' w' q => ?_
 cases e with
 | normal => exact q
 | ret => exact q
 | _ => exact q.elim
theorem icalls_cw {f : FuncId} {fn : Func} {c : Code} {av : List Value} {R : Ending → World → Prop} (n : Nat) (ws : List (Nat × Value)) (hf : P.funcs[f]? = some fn) (hb : fn.body = some c) (hn : fn.ntmps = n)
  (he : av ++ List.replicate (n - av.length) undef = setAll (List.replicate n undef) ws) (hl : ws.all (fun p => Nat.blt p.1 n) = true)
  (h : ∀ L m, ICW P none m [] c (IBody m P fn R) n L ws w) : Calls P f av.toArray w R := (callsIn_wide (n := 0)).1 (icalls n ws hf hb hn he hl h)
theorem icw_seq {x y : Code} (h : ICW P r m Ds x (Exit.then (y.wpIn (FR r) m P Q) Q) n L ws w) : ICW P r m Ds (.seq x y) Q n L ws w := ⟨fun b => wpIn_seq (h.out b)⟩
theorem icw_block {id : Nat} {c : Code} (h : ICW P r m Ds c (Exit.inBlock id Q) n L ws w) : ICW P r m Ds (.block id c) Q n L ws w := ⟨fun b => wpIn_block (h.out b)⟩
theorem icw_skip (h : IQW Ds Q .normal n L ws w) : ICW P r m Ds .skip Q n L ws w := ⟨fun b => wpIn_skip (h.out b)⟩
theorem icw_ret (h : IQW Ds Q .ret n L ws w) : ICW P r m Ds .ret Q n L ws w := ⟨fun b => wpIn_ret (h.out b)⟩
theorem icw_plain {id : Nat} {l : List Oper} (h : IPL P r m Ds l l Q n L ws w) : ICW P r m Ds (.region id l.toArray false) Q n L ws w := ⟨fun b => wpIn_region_lit (h.out b)⟩
theorem icw_t {c : Operand} {x y : Code} (hc : evalW L ws c = .bool true) (h : ICW P r m Ds x Q n L ws w) : ICW P r m Ds (.cond c x y) Q n L ws w := ⟨fun b => wpIn_cond_true (by rw [eval_W b.lt]; exact hc) (h.out b)⟩
theorem icw_f {c : Operand} {x y : Code} (hc : evalW L ws c = .bool false) (h : ICW P r m Ds y Q n L ws w) : ICW P r m Ds (.cond c x y) Q n L ws w := ⟨fun b => wpIn_cond_false (by rw [eval_W b.lt]; exact hc) (h.out b)⟩
theorem iqw_then {y : Code} (h : ICW P r m Ds y Q n L ws w) : IQW Ds (Exit.then (y.wpIn (FR r) m P Q) Q) .normal n L ws w := ⟨h.out⟩
theorem iqw_then_ret {K : Act → World → Prop} (h : IQW Ds Q .ret n L ws w) : IQW Ds (Exit.then K Q) .ret n L ws w := ⟨h.out⟩
theorem iqw_block {id : Nat} (h : IQW Ds Q .normal n L ws w) : IQW Ds (Exit.inBlock id Q) .normal n L ws w := ⟨h.out⟩
theorem iqw_block_ret {id : Nat} (h : IQW Ds Q .ret n L ws w) : IQW Ds (Exit.inBlock id Q) .ret n L ws w := ⟨h.out⟩
theorem ipl_nil {ops : List Oper} (h : IQW Ds Q .normal n L ws w) : IPL P r m Ds ops [] Q n L ws w := ⟨h.out⟩
theorem wantP_specD {ops : List Oper} {o : Oper} {b : Bool} (h : Bd n L ws) (hok : ∀ x ∈ ops, ∀ d, x.dst = some d → d < n) (hw : wantP ops L ws o.guard = b) :
  Region.wanted o (yielded ops.toArray (⟨(setAll L ws).toArray, marks Ds⟩ : Act).tmps) = b := wantP_spec h hok hw
theorem ipl_take {ops rest : List Oper} {o : Oper} {d : Nat} (v : Value) (hdst : o.dst = some d) (hok : dstOk n ops = true) (hd : Nat.blt d n = true) (hw : wantP ops L ws o.guard = true)
  (hr : (execOp (evalW L ws) o).run P w = .ok (.value v) w) (h : IPL P r m Ds ops rest Q n L ((d, v) :: ws) w) : IPL P r m Ds ops (o :: rest) Q n L ws w := ⟨fun b => by
 refine wpListIn_step fun K hK => ?_
 rw [if_pos (wantP_specD b (dstOk_spec hok) hw)]
 refine StepN.wpI (N := fun v' w' => v' = v ∧ w' = w) (.inl ⟨v, w, hr, rfl, rfl⟩) (eval_W b.lt _) fun v' w' ⟨e1, e2⟩ => hK _ _ ?_
 subst e1 e2
 rw [put_W, hdst]; exact h.out (b.put hd)⟩
theorem ipl_skip {ops rest : List Oper} {o : Oper} {d : Nat} (hdst : o.dst = some d) (hok : dstOk n ops = true) (hd : Nat.blt d n = true) (hw : wantP ops L ws o.guard = false)
  (h : IPL P r m Ds ops rest Q n L ((d, undef) :: ws) w) : IPL P r m Ds ops (o :: rest) Q n L ws w := ⟨fun b => by
 refine wpListIn_step fun K hK => ?_
 rw [if_neg (by rw [wantP_specD b (dstOk_spec hok) hw]; simp)]
 refine ⟨fun _ _ => trivial, hK _ _ ?_⟩
 rw [put_W, hdst]; exact h.out (b.put hd)⟩
theorem ipl_step {ops rest : List Oper} {o : Oper} {d : Nat} (hdst : o.dst = some d) (hok : dstOk n ops = true) (hd : Nat.blt d n = true) (hw : wantP ops L ws o.guard = true)
  (h : StepN P (evalW L ws) o w fun v w' => IPL P r m Ds ops rest Q n L ((d, v) :: ws) w') : IPL P r m Ds ops (o :: rest) Q n L ws w := ⟨fun b => by
 refine wpListIn_step fun K hK => ?_
 rw [if_pos (wantP_specD b (dstOk_spec hok) hw)]
 exact h.wpI (eval_W b.lt _) fun v w' hn => hK _ _ (by rw [put_W, hdst]; exact hn.out (b.put hd))⟩
theorem ipl_yield {ops rest : List Oper} {o : Oper} {d : Nat} (hdst : o.dst = some d) (hok : dstOk n ops = true) (hd : Nat.blt d n = true) (hw : wantP ops L ws o.guard = true)
  (h : StepY P m (evalW L ws) o w fun v w' => IPL P r m Ds ops rest Q n L ((d, v) :: ws) w') : IPL P r m Ds ops (o :: rest) Q n L ws w := ⟨fun b => by
 refine wpListIn_step fun K hK => ?_
 rw [if_pos (wantP_specD b (dstOk_spec hok) hw)]
 exact h.wpI (eval_W b.lt _) fun v w' hn => hK _ _ (by rw [put_W, hdst]; exact hn.out (b.put hd))⟩
theorem ipl_put {ops rest : List Oper} {o : Oper} (hdst : o.dst = none) (hok : dstOk n ops = true) (hw : wantP ops L ws o.guard = true)
  (h : StepN P (evalW L ws) o w fun _ w' => IPL P r m Ds ops rest Q n L ws w') : IPL P r m Ds ops (o :: rest) Q n L ws w := ⟨fun b => by
 refine wpListIn_step fun K hK => ?_
 rw [if_pos (wantP_specD b (dstOk_spec hok) hw)]
 exact h.wpI (eval_W b.lt _) fun v w' hn => hK _ _ (by rw [put_W, hdst]; exact hn.out b)⟩
theorem icw_clean {c : Code} (ks : List Nat) {ws' : List (Nat × Value)} (hp : pickW ws ks = some ws') (h : ∀ L', ICW P r m Ds c Q n L' ws' w) : ICW P r m Ds c Q n L ws w := ⟨fun b => by
 have := (h (setAll L ws)).out (pick_bd hp b)
 rwa [pick_set hp] at this⟩
def ILoopK (n : Nat) (Ds : List Nat) (Inv : List (Nat × Value) → World → Nat → Prop) (m : Nat) : Act → World → Prop := fun a w => ∃ L' ws' m', m' < m ∧ Bd n L' ws' ∧ a = ⟨(setAll L' ws').toArray, marks Ds⟩ ∧ Inv ws' w m'
open Classical in
theorem icw_loop {c : Code} (ks : List Nat) (Inv : List (Nat × Value) → World → Nat → Prop) {ws0 : List (Nat × Value)} (hp : pickW ws ks = some ws0) (m0 : Nat) (h0 : Inv ws0 w m0)
  (round : ∀ k L' ws' w', Inv ws' w' k → ICW P r m Ds c (Exit.then (ILoopK n Ds Inv k) Q) n L' ws' w') : ICW P r m Ds (.loop c) Q n L ws w := ⟨fun b => by
 let J : Nat → Act → World → Prop := fun k a w => ∃ L' ws', Bd n L' ws' ∧ a = ⟨(setAll L' ws').toArray, marks Ds⟩ ∧ Inv ws' w k
 let μ : Act → World → Nat := fun a w => if h : ∃ k, J k a w then Classical.choose (least h) else 0
 have hμ : ∀ a w (h : ∃ k, J k a w), J (μ a w) a w ∧ ∀ k, J k a w → μ a w ≤ k := fun a w h => by
  have e : μ a w = Classical.choose (least h) := dif_pos h
  rw [e]; exact Classical.choose_spec (least h)
 refine wpIn_loop (fun a w => ∃ k, J k a w) μ ⟨m0, setAll L ws, ws0, pick_bd hp b, by rw [pick_set hp], h0⟩ fun a w h => ?_
 obtain ⟨⟨L', ws', hb, ha, hI⟩, _⟩ := hμ a w h
 have := (round (μ a w) L' ws' w hI).out hb
 rw [← ha] at this
 refine Go.wpIn_mono this (fun e a' w' q => ?_)
 cases e with
 | normal =>
  obtain ⟨L2, ws2, m2, hlt, hb2, ha2, hI2⟩ := q
  have hJ : J m2 a' w' := ⟨L2, ws2, hb2, ha2, hI2⟩
  exact ⟨⟨m2, hJ⟩, Nat.lt_of_le_of_lt ((hμ a' w' ⟨m2, hJ⟩).2 m2 hJ) hlt⟩
 | _ => exact q⟩
theorem iqw_round {Inv : List (Nat × Value) → World → Nat → Prop} {k : Nat} (ks : List Nat) {ws' : List (Nat × Value)} (hp : pickW ws ks = some ws') (m' : Nat) (hlt : m' < k) (h : Inv ws' w m') : IQW Ds (Exit.then (ILoopK n Ds Inv k) Q) .normal n L ws w := ⟨fun b =>
 ⟨setAll L ws, ws', m', hlt, pick_bd hp b, by rw [pick_set hp], h⟩⟩
end
structure Mv (n₀ : Nat) (A B : World) : Prop where
 os : B.os = A.os
 tape : B.tape = A.tape
 output : B.output = A.output
 size : A.heap.size ≤ B.heap.size
 cells : ∀ (k : Nat) (o : Obj), A.heap[k]? = some o → o.isCells = true → B.heap[k]? = some o
 below : ∀ (k : Nat), k < n₀ → k < A.heap.size → B.heap[k]? = A.heap[k]?
theorem Mv.refl (n₀ : Nat) (A : World) : Mv n₀ A A := ⟨rfl, rfl, rfl, Nat.le_refl _, fun _ _ h _ => h, fun _ _ _ => rfl⟩
theorem Mv.trans {n₀ : Nat} {A B C : World} (h : Mv n₀ A B) (k : Mv n₀ B C) : Mv n₀ A C :=
 ⟨k.os.trans h.os, k.tape.trans h.tape, k.output.trans h.output, T h.size k.size, fun i o hi ho => k.cells i o (h.cells i o hi ho) ho, fun i hi hl => (k.below i hi (Nat.lt_of_lt_of_le hl h.size)).trans (h.below i hi hl)⟩
theorem Mv.of_ext {n₀ : Nat} {A B : World} (h : Ext A B) : Mv n₀ A B :=
 ⟨h.os, h.tape, h.output, h.size, fun k _ hk _ => (h.block k (Array.getElem?_eq_some_iff.1 hk).1).trans hk, fun k _ hk => h.block k hk⟩
theorem Mv.putObj {n₀ : Nat} {A : World} {k : Nat} {o : Obj} (o' : Obj) (hk : n₀ ≤ k) (ho : A.heap[k]? = some o) (hc : o.isCells = false) : Mv n₀ A (A.putObj k o') :=
 ⟨rfl, rfl, rfl, by simp, fun j u hj hu => (World.putObj_heap_other (fun e => by subst e; rw [ho] at hj; cases hj; rw [hc] at hu; cases hu)).trans hj, fun j hj _ => World.putObj_heap_other (by omega)⟩
theorem Mv.ext {n₀ : Nat} {A B U : World} (h : Mv n₀ A B) (hU : Ext U A) (hn : U.heap.size ≤ n₀) : Ext U B :=
 ⟨h.os.trans hU.os, h.tape.trans hU.tape, h.output.trans hU.output, T hU.size h.size, fun k hk => (h.below k (Nat.lt_of_lt_of_le hk hn) (Nat.lt_of_lt_of_le hk hU.size)).trans (hU.block k hk)⟩
theorem Mv.cell {n₀ : Nat} {A B : World} (h : Mv n₀ A B) {p : Addr} {v : Value} (hv : A.cell? p = some v) : B.cell? p = some v := by
 obtain ⟨o, ho, hc⟩ := cells_of_cell hv
 exact (World.cell?_of_block ((h.cells _ o ho hc).trans ho.symm)).trans hv
theorem Mv.froz {n₀ : Nat} {A B : World} (h : Mv n₀ A B) {p : Addr} {v : Value} (hv : A.cell? p = some v) : B.frozen? p = A.frozen? p := by
 obtain ⟨o, ho, hc⟩ := cells_of_cell hv
 exact World.frozen?_of_block ((h.cells _ o ho hc).trans ho.symm)
theorem Mv.box {n₀ : Nat} {A B : World} (h : Mv n₀ A B) {b o : Nat} {v : Value} (hv : BoxAt A b o v) : BoxAt B b o v := ⟨h.cell hv.1, by rw [h.froz hv.1]; exact hv.2⟩
theorem Mv.va {n₀ : Nat} {A B : World} (h : Mv n₀ A B) {b o : Nat} {l : List Int} (hv : VA A b o l) : VA B b o l := ⟨fun i hi => h.cell (hv.1 i hi), hv.2⟩
theorem Mv.rows {n₀ : Nat} {A B : World} (h : Mv n₀ A B) {b : Nat} {l : List Int} (hv : RowsAt A b l) : RowsAt B b l := ⟨hv.1, fun i hi => h.cell (hv.cell hi), fun i hi => by rw [h.froz (hv.cell hi)]; exact hv.free hi⟩
theorem Mv.ints {n₀ : Nat} {A B : World} (h : Mv n₀ A B) {a : Option Addr} {l : List Int} (hv : IntsAt A a l) : IntsAt B a l := by
 rcases hv with q | ⟨b, off, rfl, q⟩
 · exact .inl q
 · exact .inr ⟨b, off, rfl, fun i hi => h.cell (q i hi)⟩
theorem Mv.own {α : Type} {R : Rep α} {n₀ n₁ : Nat} {e : TypeId} {size : Nat} {v : Value} {A B : World} {l : List α} (h : Mv n₁ A B) (ho : OwnL R n₀ e size v A l) : OwnL R n₀ e size v B l := by
  obtain ⟨cs, h1, h2, h3, h4⟩ := ho
  refine ⟨cs, h1, h2, ⟨h3.1, ?_⟩, fun j x c hx hc => ?_⟩
  · rcases h3.2 with q | ⟨g, cap, cur, q, hb, hcur, rest⟩
    · exact .inl q
    · exact .inr ⟨g, cap, cur, q, hb, h.cells _ _ hcur rfl, rest⟩
  · obtain ⟨F, q1, q2⟩ := h4 j x c hx hc
    exact ⟨F, R.keep q1 (fun b _ o u hu => h.cell hu), q2⟩
structure KeptX (X : Nat → Prop) (A B : World) : Prop where
 size : A.heap.size ≤ B.heap.size
 cells : ∀ (k : Nat) (o : Obj), A.heap[k]? = some o → o.isCells = true → ¬ X k → B.heap[k]? = some o
theorem KeptX.trans {X : Nat → Prop} {A B C : World} (h : KeptX X A B) (k : KeptX X B C) : KeptX X A C := ⟨T h.size k.size, fun i o hi ho hx => k.cells i o (h.cells i o hi ho hx) ho hx⟩
theorem KeptX.of_mv {X : Nat → Prop} {n₀ : Nat} {A B : World} (h : Mv n₀ A B) : KeptX X A B := ⟨h.size, fun k o hk ho _ => h.cells k o hk ho⟩
theorem KeptX.cell {X : Nat → Prop} {A B : World} (h : KeptX X A B) {b o : Nat} {v : Value} (hx : ¬ X b) (hv : A.cell? ⟨b, o, none⟩ = some v) : B.cell? ⟨b, o, none⟩ = some v := by
 obtain ⟨u, hu, hc⟩ := cells_of_cell hv
 exact (World.cell?_of_block ((h.cells _ u hu hc hx).trans hu.symm)).trans hv
theorem KeptX.box {X : Nat → Prop} {A B : World} (h : KeptX X A B) {b o : Nat} {v : Value} (hx : ¬ X b) (hv : BoxAt A b o v) : BoxAt B b o v := by
 obtain ⟨u, hu, hc⟩ := cells_of_cell hv.1
 exact ⟨h.cell hx hv.1, (World.frozen?_of_block ((h.cells _ u hu hc hx).trans hu.symm)).trans hv.2⟩
structure RK (n₀ : Nat) (X : Nat → Prop) (A B : World) : Prop where
 kept : KeptX X A B
 oth : KeepsFrom n₀ A B
theorem RK.refl (n₀ : Nat) (X : Nat → Prop) (A : World) : RK n₀ X A A := ⟨⟨Nat.le_refl _, fun _ _ h _ _ => h⟩, KeepsFrom.refl _ _⟩
theorem RK.ext {n₀ : Nat} {X : Nat → Prop} {A B C : World} (h : RK n₀ X A B) (e : Ext B C) : RK n₀ X A C :=
 ⟨h.kept.trans (KeptX.of_mv (n₀ := 0) (Mv.of_ext e)), h.oth.trans (e.others.from _)⟩
theorem RK.turn {n₀ : Nat} {X : Nat → Prop} {A B C : World} (h : RK n₀ X A B) {O : Nat} (t : Turns O B C) (hO : X O ∨ A.heap.size ≤ O) : RK n₀ X A C := by
  refine ⟨⟨by rw [t.size]; exact h.kept.size, fun k o hk ho hx => ?_⟩, ⟨by rw [t.size]; exact h.oth.size, fun k o hk hi ho => ?_⟩⟩
  · have hne : k ≠ O := fun e => by
      subst e
      rcases hO with q | q
      · exact hx q
      · have := (Array.getElem?_eq_some_iff.1 hk).1; omega
    rw [t.heap' k hne]; exact h.kept.cells k o hk ho hx
  · have h2 := h.oth.same k o hk hi ho
    by_cases e : k = O
    · subst e; exact t.oth' o h2 ho
    · rw [t.heap' k e]; exact h2
def RndQ (n₀ : Nat) (X : Nat → Prop) (Inv : Nat → World → Prop) (Ix : Code → Nat → World → Prop) (i : Nat) (W : World) : Exit → Act → World → Prop
 | .normal, _, W' => RK n₀ X W W' ∧ Inv (i + 1) W'
 | .ret, _, W' => RK n₀ X W W' ∧ Ix .ret i W'
 | .exit id, _, W' => RK n₀ X W W' ∧ Ix (.exit id) i W'
 | _, _, _ => False
def AsgQ (P : Program) (l k n₀ : Nat) (X : Nat → Prop) (body : Code) (Inv : Nat → World → Prop) (Ix : Code → Nat → World → Prop) (i : Nat) (W : World) : Exit → Act → World → Prop
 | .normal, a, w1 => RK n₀ X W w1 ∧ ∀ w2, Mv n₀ w1 w2 → body.wpIn (FR (some l)) k P (RndQ n₀ X Inv Ix i w2) a w2
 | _, _, _ => False
def zipW : List Nat → List Value → List (Nat × Value) → List (Nat × Value)
 | p :: ps, v :: vs, ws => zipW ps vs ((p, v) :: ws)
 | _, _, ws => ws
theorem zip_setL (L : List Value) : ∀ (ps : List Nat) (vs : List Value) (ws : List (Nat × Value)), (ps.zip vs).foldl (fun t (p, v) => t.setIfInBounds p v) (setAll L ws).toArray = (setAll L (zipW ps vs ws)).toArray
 | p :: ps, v :: vs, ws => by
  have ih := zip_setL L ps vs ((p, v) :: ws)
  rw [zipW, ← ih, List.zip_cons_cons, List.foldl_cons]
  simp [setAll]
 | [], vs, ws => by simp [zipW]
 | p :: ps, [], ws => by simp [zipW]
theorem zip_set (L : List Value) (ps : List Nat) (vs : List Value) (ws : List (Nat × Value)) : (ps.toArray.zip vs.toArray).foldl (fun t (p, v) => t.setIfInBounds p v) (setAll L ws).toArray = (setAll L (zipW ps vs ws)).toArray := by
 rw [← zip_setL, List.zip_toArray]
 exact List.foldl_toArray _ _ _
theorem zip_bd {n : Nat} {L : List Value} : ∀ {ps : List Nat} {vs : List Value} {ws : List (Nat × Value)}, Bd n L ws → ps.all (fun p => Nat.blt p n) = true → Bd n L (zipW ps vs ws)
 | p :: ps, v :: vs, ws, b, h => by
  simp only [List.all_cons, Bool.and_eq_true] at h
  exact zip_bd (ps := ps) (vs := vs) (b.put h.1) h.2
 | [], vs, ws, b, _ => b
 | p :: ps, [], ws, b, _ => b
section
variable {P : Program} {n : Nat} {L : List Value} {ws : List (Nat × Value)} {w : World} {Q : Exit → Act → World → Prop} {r : Option Nat} {m : Nat} {Ds : List Nat}
theorem iqw_asg {l k n₀ i : Nat} {X : Nat → Prop} {body : Code} {Inv : Nat → World → Prop} {Ix : Code → Nat → World → Prop} {W : World} (hk : RK n₀ X W w) (h : ∀ W2, Mv n₀ w W2 → ICW P (some l) k [] body (RndQ n₀ X Inv Ix i W2) n L ws W2) : IQW [] (AsgQ P l k n₀ X body Inv Ix i W) .normal n L ws w :=
 ⟨fun b => ⟨hk, fun w2 hm => (h w2 hm).out b⟩⟩
theorem iqw_next {n₀ i : Nat} {X : Nat → Prop} {Inv : Nat → World → Prop} {Ix : Code → Nat → World → Prop} {W : World} (hk : RK n₀ X W w) (h : Inv (i + 1) w) : IQW Ds (RndQ n₀ X Inv Ix i W) .normal n L ws w := ⟨fun _ => ⟨hk, h⟩⟩
theorem ileave {fn : Func} {R : Ending → World → Prop} {rs : List ResultVar} (n₀ : Nat) (vs : List Value) (hf : fn.results = rs.toArray) (b : Bd n L ws) (hD : ∀ D ∈ Ds, n₀ ≤ D ∧ w.heap[D]? = some (.deferred (some []))) (hn : Ds.Nodup)
  (h : ∀ W, Mv n₀ w W → ResV P (evalW L ws) W rs vs ∧ R (.returned (resOf vs)) W) : LeavesInM Fence.wide m P fn (setAll L ws).toArray R (marks Ds) .returning w := by
 refine leaves_marks n₀ (fun W => Mv n₀ w W) (fun D W hD hW hk => hW.trans (Mv.putObj _ hD hk rfl)) (fun W hW => ?_) Ds w hn hD (Mv.refl _ _)
 obtain ⟨h1, h2⟩ := h W hW
 exact ⟨_, res_run (a := ⟨(setAll L ws).toArray, marks Ds⟩) hf (by rw [eval_W b.lt]; exact h1), h2⟩
theorem iqw_ret {fn : Func} {R : Ending → World → Prop} {rs : List ResultVar} (n₀ : Nat) (vs : List Value) (hf : fn.results = rs.toArray) (hD : ∀ D ∈ Ds, n₀ ≤ D ∧ w.heap[D]? = some (.deferred (some []))) (hn : Ds.Nodup)
  (h : ∀ W, Mv n₀ w W → ResV P (evalW L ws) W rs vs ∧ R (.returned (resOf vs)) W) : IQW Ds (IBody m P fn R) .ret n L ws w := ⟨fun b => ileave n₀ vs hf b hD hn h⟩
end
section
variable {P : Program} {ops : Array Oper} {Q : Exit → Act → World → Prop} {S : World → Prop} {r : Option Nat} {m : Nat}
def PureH (P : Program) (ops : Array Oper) (S : World → Prop) (o : Oper) (v : Value) (a : Act) : Prop :=
 (Region.wanted o (yielded ops a.tmps) = true ∧ ∀ w, S w → (execOp a.eval o).run P w = .ok (.value v) w) ∨ (Region.wanted o (yielded ops a.tmps) = false ∧ v = undef)
theorem PureH.same {o : Oper} {v : Value} {a a' : Act} (h : PureH P ops S o v a) (he : execOp a'.eval o = execOp a.eval o) (hw : Region.wanted o (yielded ops a'.tmps) = Region.wanted o (yielded ops a.tmps)) : PureH P ops S o v a' := by
 unfold PureH at *
 rw [hw, he]; exact h
theorem PureH.op {i : Nat} {o : Oper} {v : Value} {a : Act} (hi : ops[i]? = some o) (h : PureH P ops S o v a) {K : Act → World → Prop} {w : World} (hS : S w) (hk : K (a.put o.dst v) w) : wpOpIn (FR r) m P ops Q i K a w := by
  unfold wpOpIn
  simp only [hi]
  rcases h with ⟨hw, hv⟩ | ⟨hw, rfl⟩
  · rw [if_pos hw]
    refine ⟨fun _ _ => trivial, ?_⟩
    show o.uponIn (FR r) m P a K Q ((o.semAt r a.eval).run P w)
    rw [semAt_of (hv w hS) (by simp), Oper.uponIn_value]; exact hk
  · rw [if_neg (by rw [hw]; simp)]
    exact ⟨fun _ _ => trivial, hk⟩
end
section
variable {P : Program} {ops ops0 : Array Oper} {Q Q' : Exit → Act → World → Prop} {S : World → Prop} {T : List Row} {L : List Value} {Ds : List Nat} {fuel n : Nat} {done : List Nat} {ws : List (Nat × Value)} {w : World} {r : Option Nat} {m : Nat}
end
section
variable {P : Program} {n : Nat} {L : List Value} {ws : List (Nat × Value)} {w : World} {m : Nat}
theorem iqw_ret0 {fn : Func} {R : Ending → World → Prop} {rs : List ResultVar} (vs : List Value) (hf : fn.results = rs.toArray) (h : ResV P (evalW L ws) w rs vs) (hR : R (.returned (resOf vs)) w) : IQW [] (IBody m P fn R) .ret n L ws w := ⟨fun b => by
 show LeavesInM Fence.wide m P fn (setAll L ws).toArray R [] .returning w
 exact ⟨_, res_run (a := ⟨(setAll L ws).toArray, []⟩) hf (by rw [eval_W b.lt]; exact h), hR⟩⟩
end
theorem yield_mono {F : Fence} {m : Nat} {P : Program} {l : Nat} {args : Array Value} {W : World} {R R' : Ending → World → Prop} (h : YieldAt F m P l args W R) (hr : ∀ e w', R e w' → R' e w') : YieldAt F m P l args W R' :=
 let ⟨fn, tmps, assign, body, h1, h2⟩ := h; ⟨fn, tmps, assign, body, h1, h2.mono hr⟩
theorem marksC {n₀ D : Nat} {w : World} {Ds : List Nat} (h : n₀ ≤ D) (hm : w.heap[D]? = some (.deferred (some []))) (hr : ∀ D' ∈ Ds, n₀ ≤ D' ∧ w.heap[D']? = some (.deferred (some []))) : ∀ D' ∈ D :: Ds, n₀ ≤ D' ∧ w.heap[D']? = some (.deferred (some [])) := fun D' hD => by
 rcases List.mem_cons.1 hD with rfl | hD
 · exact ⟨h, hm⟩
 · exact hr D' hD
structure Wrote (X : Nat → Prop) (A B : World) : Prop where
 os : B.os = A.os
 tape : B.tape = A.tape
 output : B.output = A.output
 size : A.heap.size ≤ B.heap.size
 same : ∀ (k : Nat), k < A.heap.size → ¬ X k → B.heap[k]? = A.heap[k]?
 oth : ∀ (k : Nat) (o : Obj), A.heap[k]? = some o → o.isCells = false → B.heap[k]? = some o
theorem Wrote.refl (X : Nat → Prop) (A : World) : Wrote X A A := ⟨rfl, rfl, rfl, Nat.le_refl _, fun _ _ _ => rfl, fun _ _ h _ => h⟩
theorem Wrote.trans {X : Nat → Prop} {A B C : World} (h : Wrote X A B) (k : Wrote X B C) : Wrote X A C :=
 ⟨k.os.trans h.os, k.tape.trans h.tape, k.output.trans h.output, T h.size k.size, fun i hi hx => (k.same i (Nat.lt_of_lt_of_le hi h.size) hx).trans (h.same i hi hx), fun i o hi ho => k.oth i o (h.oth i o hi ho) ho⟩
theorem Wrote.of_ext {X : Nat → Prop} {A B : World} (e : Ext A B) : Wrote X A B :=
 ⟨e.os, e.tape, e.output, e.size, fun k hk _ => e.block k hk, fun k _o hk _ => (e.block k (Array.getElem?_eq_some_iff.1 hk).1).trans hk⟩
theorem Wrote.of_turns {X : Nat → Prop} {A B : World} {O : Nat} (t : Turns O A B) (hx : X O) : Wrote X A B := by
 have h0 : Ext { A with heap := #[] } A := ⟨rfl, rfl, rfl, Nat.zero_le _, fun k hk => absurd hk (Nat.not_lt_zero k)⟩
 have h1 := t.ext h0 (Nat.zero_le _)
 refine ⟨h1.os, h1.tape, h1.output, Nat.le_of_eq t.size.symm, fun k _ hk => t.heap' k (fun e => hk (e ▸ hx)), fun k o hk ho => ?_⟩
 by_cases e : k = O
 · subst e; exact t.oth' o hk ho
 · rw [t.heap' k e]; exact hk
theorem Wrote.step {X : Nat → Prop} {A B C : World} (h : Wrote X A B) (e : Ext B C) : Wrote X A C := h.trans (Wrote.of_ext e)
theorem Wrote.turn {X : Nat → Prop} {A B C : World} (h : Wrote X A B) {O : Nat} (t : Turns O B C) (hO : X O ∨ A.heap.size ≤ O) : Wrote X A C := by
  rcases hO with q | q
  · exact h.trans (Wrote.of_turns t q)
  · have k := Wrote.of_turns (X := fun k => k = O) t rfl
    exact ⟨k.os.trans h.os, k.tape.trans h.tape, k.output.trans h.output, T h.size k.size, fun i hi hx => (k.same i (Nat.lt_of_lt_of_le hi h.size) (fun e => by omega)).trans (h.same i hi hx), fun i o hi ho => k.oth i o (h.oth i o hi ho) ho⟩
theorem Wrote.ext {X : Nat → Prop} {A B U : World} (h : Wrote X A B) (hU : Ext U A) (hx : ∀ k, X k → U.heap.size ≤ k) : Ext U B :=
 ⟨h.os.trans hU.os, h.tape.trans hU.tape, h.output.trans hU.output, T hU.size h.size, fun k hk => (h.same k (Nat.lt_of_lt_of_le hk hU.size) (fun q => absurd hk (Nat.not_lt_of_le (hx k q)))).trans (hU.block k hk)⟩
theorem Wrote.kept {X Y : Nat → Prop} {A B : World} (h : Wrote X A B) (hx : ∀ k, X k → Y k) : KeptX Y A B :=
 ⟨h.size, fun k _o hk _ hy => (h.same k (Array.getElem?_eq_some_iff.1 hk).1 (fun q => hy (hx k q))).trans hk⟩
theorem Wrote.cell {X : Nat → Prop} {A B : World} (h : Wrote X A B) {b o : Nat} {v : Value} (hb : ¬ X b) (hv : A.cell? ⟨b, o, none⟩ = some v) : B.cell? ⟨b, o, none⟩ = some v := (h.kept (fun _ q => q)).cell hb hv
theorem Wrote.box {X : Nat → Prop} {A B : World} (h : Wrote X A B) {b o : Nat} {v : Value} (hb : ¬ X b) (hv : BoxAt A b o v) : BoxAt B b o v := (h.kept (fun _ q => q)).box hb hv
theorem Wrote.va {X : Nat → Prop} {A B : World} (h : Wrote X A B) {b o : Nat} {l : List Int} (hb : ¬ X b) (hv : VA A b o l) : VA B b o l := ⟨fun i hi => h.cell hb (hv.1 i hi), hv.2⟩
theorem Wrote.rows {X : Nat → Prop} {A B : World} (h : Wrote X A B) {b : Nat} {l : List Int} (hb : ¬ X b) (hv : RowsAt A b l) : RowsAt B b l :=
 ⟨hv.1, fun _i hi => h.cell hb (hv.cell hi), fun _i hi => (h.box hb ⟨hv.cell hi, hv.free hi⟩).2⟩
theorem RK.wrote {n₀ : Nat} {X Y : Nat → Prop} {A B C : World} (h : RK n₀ X A B) (t : Wrote Y B C) (hY : ∀ k, Y k → X k ∨ A.heap.size ≤ k) : RK n₀ X A C := by
 refine ⟨⟨T h.kept.size t.size, fun k o hk ho hx => ?_⟩, ⟨T h.oth.size t.size, fun k o hk hi ho => t.oth k o (h.oth.same k o hk hi ho) ho⟩⟩
 have h2 := h.kept.cells k o hk ho hx
 refine (t.same k (Array.getElem?_eq_some_iff.1 h2).1 (fun q => ?_)).trans h2
 rcases hY k q with q | q
 · exact hx q
 · have := (Array.getElem?_eq_some_iff.1 hk).1; omega
theorem Wrote.wrote {X Y : Nat → Prop} {A B C : World} (h : Wrote X A B) (t : Wrote Y B C) (hY : ∀ k, Y k → X k ∨ A.heap.size ≤ k) : Wrote X A C :=
 ⟨t.os.trans h.os, t.tape.trans h.tape, t.output.trans h.output, T h.size t.size, fun k hk hx => (t.same k (Nat.lt_of_lt_of_le hk h.size) (fun q => (hY k q).elim hx (fun z => absurd hk (Nat.not_lt_of_le z)))).trans (h.same k hk hx), fun k o hk ho => t.oth k o (h.oth k o hk ho) ho⟩
instance {w w' : World} {n₀ : Nat} {X : Nat → Prop} {A : World} : MvC w w' (RK n₀ X A w) (RK n₀ X A w') := ⟨fun e h => h.ext e⟩
section
variable {P : Program} {n : Nat} {L : List Value} {ws : List (Nat × Value)} {w : World} {Q : Exit → Act → World → Prop} {r : Option Nat} {m : Nat} {Ds : List Nat}
theorem iU {ops rest : List Oper} {o : Oper} {d : Nat} (v : Value) (hr : (execOp (evalW L ws) o).run P w = .ok (.value v) w) (h : IPL P r m Ds ops rest Q n L ((d, v) :: ws) w)
    (hdst : o.dst = some d := by rfl) (hok : dstOk n ops = true := by kernel_rfl) (hd : Nat.blt d n = true := by kernel_rfl) (hw : wantP ops L ws o.guard = true := by kernel_rfl) : IPL P r m Ds ops (o :: rest) Q n L ws w := ipl_take v hdst hok hd hw hr h
theorem iT {ops rest : List Oper} {o : Oper} {d : Nat} (v : Value) (h : IPL P r m Ds ops rest Q n L ((d, v) :: ws) w)
    (hdst : o.dst = some d := by rfl) (hok : dstOk n ops = true := by kernel_rfl) (hd : Nat.blt d n = true := by kernel_rfl) (hw : wantP ops L ws o.guard = true := by kernel_rfl) (hr : (execOp (evalW L ws) o).run P w = .ok (.value v) w := by kernel_rfl) : IPL P r m Ds ops (o :: rest) Q n L ws w := ipl_take v hdst hok hd hw hr h
theorem iK {ops rest : List Oper} {o : Oper} {d : Nat} (h : IPL P r m Ds ops rest Q n L ((d, undef) :: ws) w)
    (hdst : o.dst = some d := by rfl) (hok : dstOk n ops = true := by kernel_rfl) (hd : Nat.blt d n = true := by kernel_rfl) (hw : wantP ops L ws o.guard = false := by kernel_rfl) : IPL P r m Ds ops (o :: rest) Q n L ws w := ipl_skip hdst hok hd hw h
theorem iS {ops rest : List Oper} {o : Oper} {d : Nat} (h : StepN P (evalW L ws) o w fun v w' => IPL P r m Ds ops rest Q n L ((d, v) :: ws) w')
    (hdst : o.dst = some d := by rfl) (hok : dstOk n ops = true := by kernel_rfl) (hd : Nat.blt d n = true := by kernel_rfl) (hw : wantP ops L ws o.guard = true := by kernel_rfl) : IPL P r m Ds ops (o :: rest) Q n L ws w := ipl_step hdst hok hd hw h
theorem iP {ops rest : List Oper} {o : Oper} (h : StepN P (evalW L ws) o w fun _ w' => IPL P r m Ds ops rest Q n L ws w')
    (hdst : o.dst = none := by rfl) (hok : dstOk n ops = true := by kernel_rfl) (hw : wantP ops L ws o.guard = true := by kernel_rfl) : IPL P r m Ds ops (o :: rest) Q n L ws w := ipl_put hdst hok hw h
end
end Go.Proofs.YtfmoabgjaclkpaaGreatDoor

namespace Go.Proofs.YtfmoabgjaclkpaaGreatDoor
open Go.RowKit Go.MapKept
open Go.ChangeMaps (setBlock modify_eq_set heap_setBlock_same)
structure KLaw (P : Program) (k : TypeId) {κ : Type} (kv : κ → Value) : Prop where
 inj : ∀ {a b : κ}, kv a = kv b → a = b
 check : ∀ (w : World) (em : Bool) (a : κ), (Instr.checkKey em 10000 k (kv a)).run P w = .ok () w
 stays : ∀ (w : World) (a : κ), (Instr.keyThatStays (kv a) (kv a)).run P w = .ok (kv a) w
 find : ∀ (w : World) (x : κ) (ks : List κ) (es : List MapEntry), es.map (·.key) = ks.map kv →
  ((Instr.findKey k (kv x) es).run P w = .ok none w ∧ x ∉ ks) ∨ ∃ j e, (Instr.findKey k (kv x) es).run P w = .ok (some (j, e.val)) w ∧ es[j]? = some e ∧ ks[j]? = some x ∧ ∀ i, i < j → ks[i]? ≠ some x
section
variable {κ β : Type} [DecidableEq κ]
def getM (x : κ) : List (κ × β) → Option β
 | [] => none
 | (y, u) :: r => if y = x then some u else getM x r
def updM (x : κ) (v : β) : List (κ × β) → List (κ × β)
 | [] => [(x, v)]
 | (y, u) :: r => if y = x then (x, v) :: r else (y, u) :: updM x v r
theorem getM_none {x : κ} : ∀ {l : List (κ × β)}, x ∉ l.map Prod.fst → getM x l = none
 | [], _ => rfl
 | (y, u) :: r, h => by
  simp only [List.map_cons, List.mem_cons, not_or] at h
  rw [getM, if_neg (fun e => h.1 e.symm)]; exact getM_none h.2
theorem updM_none {x : κ} {v : β} : ∀ {l : List (κ × β)}, x ∉ l.map Prod.fst → updM x v l = l ++ [(x, v)]
 | [], _ => rfl
 | (y, u) :: r, h => by
  simp only [List.map_cons, List.mem_cons, not_or] at h
  rw [updM, if_neg (fun e => h.1 e.symm), updM_none h.2]; rfl
theorem getM_at {x : κ} : ∀ {l : List (κ × β)} {j : Nat} {p : κ × β}, l[j]? = some p → p.1 = x → (∀ i, i < j → (l.map Prod.fst)[i]? ≠ some x) → getM x l = some p.2
 | [], j, p, h, _, _ => by simp at h
 | (y, u) :: r, 0, p, h, hx, _ => by
  simp only [List.getElem?_cons_zero, Option.some.injEq] at h
  subst h
  rw [getM, if_pos hx]
 | (y, u) :: r, j + 1, p, h, hx, hn => by
  have h0 : y ≠ x := fun e => hn 0 (by omega) (by simp [e])
  rw [getM, if_neg h0]
  exact getM_at (l := r) (j := j) (by simpa using h) hx (fun i hi => by have := hn (i + 1) (by omega); simpa using this)
theorem updM_at {x : κ} {v : β} : ∀ {l : List (κ × β)} {j : Nat} {p : κ × β}, l[j]? = some p → p.1 = x → (∀ i, i < j → (l.map Prod.fst)[i]? ≠ some x) → updM x v l = l.set j (x, v)
 | [], j, p, h, _, _ => by simp at h
 | (y, u) :: r, 0, p, h, hx, _ => by
  simp only [List.getElem?_cons_zero, Option.some.injEq] at h
  subst h
  rw [updM, if_pos hx]; rfl
 | (y, u) :: r, j + 1, p, h, hx, hn => by
  have h0 : y ≠ x := fun e => hn 0 (by omega) (by simp [e])
  rw [updM, if_neg h0, updM_at (l := r) (j := j) (by simpa using h) hx (fun i hi => by have := hn (i + 1) (by omega); simpa using this)]; rfl
theorem getM_mem {x : κ} {u : β} : ∀ {l : List (κ × β)}, getM x l = some u → (x, u) ∈ l
 | [], h => by cases h
 | (y, v) :: r, h => by
  unfold getM at h
  split at h
  · rename_i e; cases h; subst e; exact List.mem_cons_self
  · exact List.mem_cons_of_mem _ (getM_mem h)
theorem getM_of_mem {x : κ} {u : β} : ∀ {l : List (κ × β)}, (l.map Prod.fst).Nodup → (x, u) ∈ l → getM x l = some u
 | [], _, h => by cases h
 | (y, v) :: r, hn, h => by
  simp only [List.map_cons, List.nodup_cons] at hn
  rcases List.mem_cons.1 h with e | h
  · cases e; rw [getM, if_pos rfl]
  · rw [getM, if_neg (fun e => hn.1 (by rw [e]; exact List.mem_map_of_mem (f := Prod.fst) h)), getM_of_mem hn.2 h]
theorem keys_updM {x : κ} {v : β} : ∀ {l : List (κ × β)} {y : κ}, y ∈ (updM x v l).map Prod.fst ↔ y = x ∨ y ∈ l.map Prod.fst
  | [], y => by simp [updM]
  | (z, u) :: r, y => by
    unfold updM
    split
    · rename_i e; subst e; simp
    · simp only [List.map_cons, List.mem_cons, keys_updM (l := r)]
      constructor
      · rintro (h | h | h) <;> simp [h]
      · rintro (h | h | h) <;> simp [h]
theorem nodup_updM {x : κ} {v : β} : ∀ {l : List (κ × β)}, (l.map Prod.fst).Nodup → ((updM x v l).map Prod.fst).Nodup
  | [], _ => by simp [updM]
  | (z, u) :: r, h => by
    simp only [List.map_cons, List.nodup_cons] at h
    unfold updM
    split
    · rename_i e; subst e; simp [h]
    · rename_i e
      simp only [List.map_cons, List.nodup_cons, keys_updM (l := r)]
      exact ⟨fun q => q.elim (fun q => e q) h.1, nodup_updM h.2⟩
theorem getM_updM {x y : κ} {v : β} : ∀ {l : List (κ × β)}, getM y (updM x v l) = if x = y then some v else getM y l
  | [] => rfl
  | (z, u) :: r => by
    unfold updM
    split
    · rename_i e; subst e
      unfold getM
      by_cases h : z = y <;> simp [h]
    · rename_i e
      unfold getM
      by_cases h : z = y
      · subst h; rw [if_pos rfl, if_neg (fun q => e q.symm), if_pos rfl]
      · rw [if_neg h, getM_updM (l := r), if_neg h]
end
section
variable {κ β : Type} {P : Program} {kv : κ → Value} {vv : β → Value} {k : TypeId} {w : World} {b : Nat} {l : List (κ × β)}
def prE (e : MapEntry) : Value × Value := (e.key, e.val)
def prK (kv : κ → Value) (vv : β → Value) (p : κ × β) : Value × Value := (kv p.1, vv p.2)
structure MapAt (kv : κ → Value) (vv : β → Value) (w : World) (b : Nat) (l : List (κ × β)) (es : Array MapEntry) (clock : Nat) : Prop where
 at_ : w.heap[b]? = some (.map es clock)
 old : ∀ x ∈ es.toList, x.born < clock
 born : (es.toList.map (·.born)).Nodup
 rd : es.toList.map prE = l.map (prK kv vv)
def MapS (kv : κ → Value) (vv : β → Value) (w : World) (b : Nat) (l : List (κ × β)) : Prop := ∃ es clock, MapAt kv vv w b l es clock
theorem MapS.lt (h : MapS kv vv w b l) : b < w.heap.size := by obtain ⟨es, c, h⟩ := h; exact (Array.getElem?_eq_some_iff.1 h.at_).1
theorem MapS.block {X : World} (h : MapS kv vv w b l) (hX : X.heap[b]? = w.heap[b]?) : MapS kv vv X b l := by
 obtain ⟨es, c, h⟩ := h; exact ⟨es, c, hX.trans h.at_, h.old, h.born, h.rd⟩
theorem MapS.ext {X : World} (h : MapS kv vv w b l) (e : Ext w X) : MapS kv vv X b l := h.block (e.block b h.lt)
theorem MapS.mv {n : Nat} {X : World} (h : MapS kv vv w b l) (e : Mv n w X) (hb : b < n) : MapS kv vv X b l := h.block (e.below b hb h.lt)
theorem MapS.turn {O : Nat} {X : World} (h : MapS kv vv w b l) (t : Turns O w X) (hb : b ≠ O) : MapS kv vv X b l := h.block (t.heap' b hb)
theorem MapS.made (w : World) : MapS kv vv (w.alloc (.map #[] 0)) w.heap.size [] := ⟨#[], 0, World.alloc_heap_new w _, by simp, by simp, rfl⟩
theorem MapAt.keys {es : Array MapEntry} {c : Nat} (h : MapAt kv vv w b l es c) : es.toList.map (·.key) = (l.map Prod.fst).map kv := by
 have := congrArg (List.map Prod.fst) h.rd
 simpa [List.map_map, Function.comp_def, prE, prK] using this
theorem MapAt.get {es : Array MapEntry} {c : Nat} (h : MapAt kv vv w b l es c) {j : Nat} {e : MapEntry} (he : es.toList[j]? = some e) : ∃ p, l[j]? = some p ∧ e.key = kv p.1 ∧ e.val = vv p.2 := by
 have := congrArg (fun q => q[j]?) h.rd
 simp only [List.getElem?_map, he, Option.map_some] at this
 cases hp : l[j]? with
 | none => rw [hp] at this; cases this
 | some p =>
  rw [hp] at this
  simp only [Option.map_some, Option.some.injEq, prE, prK, Prod.mk.injEq] at this
  exact ⟨p, rfl, this.1, this.2⟩
structure TurnsM (O : Nat) (w X : World) : Prop where
 os : X.os = w.os
 tape : X.tape = w.tape
 output : X.output = w.output
 size : X.heap.size = w.heap.size
 heap' : ∀ j, j ≠ O → X.heap[j]? = w.heap[j]?
 was : ∃ o, w.heap[O]? = some o ∧ o.isCells = false
theorem turnsM_set {o : Obj} (o' : Obj) (ho : w.heap[b]? = some o) (hc : o.isCells = false) : TurnsM b w (setBlock w b o') :=
 ⟨rfl, rfl, rfl, by simp [setBlock], fun j hj => (heap_set ho).2 j hj, ⟨o, ho, hc⟩⟩
theorem TurnsM.ext {O : Nat} {a w X : World} (h : TurnsM O w X) (e : Ext a w) (hO : a.heap.size ≤ O) : Ext a X :=
 ⟨h.os.trans e.os, h.tape.trans e.tape, h.output.trans e.output, by rw [h.size]; exact e.size, fun j hj => (h.heap' j (by omega)).trans (e.block j hj)⟩
theorem TurnsM.ne {O : Nat} {X : World} (h : TurnsM O w X) {j : Nat} {o : Obj} (hj : w.heap[j]? = some o) (hc : o.isCells = true) : j ≠ O := fun e => by
 obtain ⟨o', h1, h2⟩ := h.was
 subst e; rw [h1] at hj; cases hj; rw [h2] at hc; cases hc
theorem TurnsM.mv {O : Nat} {X : World} (h : TurnsM O w X) (n : Nat) (hO : n ≤ O) : Mv n w X :=
 ⟨h.os, h.tape, h.output, Nat.le_of_eq h.size.symm, fun j o hj hc => (h.heap' j (h.ne hj hc)).trans hj, fun j hj _ => h.heap' j (by omega)⟩
theorem TurnsM.mv0 {O : Nat} {X : World} (h : TurnsM O w X) : Mv 0 w X := h.mv 0 (Nat.zero_le _)
theorem TurnsM.map {κ' β' : Type} {kv' : κ' → Value} {vv' : β' → Value} {l' : List (κ' × β')} {O c : Nat} {X : World} (h : TurnsM O w X) (hc : c ≠ O) (hm : MapS kv' vv' w c l') : MapS kv' vv' X c l' := hm.block (h.heap' c hc)
theorem MapAt.find {es : Array MapEntry} {c : Nat} (h : MapAt kv vv w b l es c) (K : KLaw P k kv) (x : κ) (X : World) :
    ((Instr.findKey k (kv x) es.toList).run P X = .ok none X ∧ x ∉ l.map Prod.fst) ∨ ∃ j e p, (Instr.findKey k (kv x) es.toList).run P X = .ok (some (j, vv p.2)) X ∧ es.toList[j]? = some e ∧ l[j]? = some p ∧ p.1 = x ∧ e.key = kv x ∧ ∀ i, i < j → (l.map Prod.fst)[i]? ≠ some x := by
  rcases K.find X x (l.map Prod.fst) es.toList h.keys with q | ⟨j, e, h1, h2, h3, h4⟩
  · exact .inl q
  · obtain ⟨p, hp, he, hv⟩ := h.get h2
    rw [List.getElem?_map, hp] at h3
    simp only [Option.map_some, Option.some.injEq] at h3
    exact .inr ⟨j, e, p, by rw [h1, hv], h2, hp, h3, by rw [he, h3], h4⟩
section
variable [DecidableEq κ]
theorem run_lookup1 {t e : TypeId} (ht : P.underlying t = some (.map k e)) (h : MapS kv vv w b l) (K : KLaw P k kv) (x : κ) {z : Value} (hz : (zeroValue e).run P w = .ok z w) :
  (Instr.lookup t (.map (some b)) (kv x) false).run P w = .ok (((getM x l).map vv).getD z) w := by
 obtain ⟨es, c, h⟩ := h
 rcases h.find K x w with ⟨h1, h2⟩ | ⟨j, e0, p, h1, h2, h3, h4, h5, h6⟩
 · simp [Instr.lookup, run_underlying ht, MapKept.run_getObj_map h.at_, K.check, h1, hz, Result.andThen, getM_none h2]
 · simp [Instr.lookup, run_underlying ht, MapKept.run_getObj_map h.at_, K.check, h1, Result.andThen, getM_at h3 h4 h6]
theorem run_lookup2 {t e : TypeId} (ht : P.underlying t = some (.map k e)) (h : MapS kv vv w b l) (K : KLaw P k kv) (x : κ) {z : Value} (hz : (zeroValue e).run P w = .ok z w) :
  (Instr.lookup t (.map (some b)) (kv x) true).run P w = .ok (.tuple #[((getM x l).map vv).getD z, .bool (getM x l).isSome]) w := by
 obtain ⟨es, c, h⟩ := h
 rcases h.find K x w with ⟨h1, h2⟩ | ⟨j, e0, p, h1, h2, h3, h4, h5, h6⟩
 · simp [Instr.lookup, run_underlying ht, MapKept.run_getObj_map h.at_, K.check, h1, hz, Result.andThen, getM_none h2]
 · simp [Instr.lookup, run_underlying ht, MapKept.run_getObj_map h.at_, K.check, h1, Result.andThen, getM_at h3 h4 h6]
end
theorem modify_toList (es : Array MapEntry) (j : Nat) (f : MapEntry → MapEntry) {e : MapEntry} (he : es.toList[j]? = some e) : (es.modify j f).toList = es.toList.set j (f e) := by
 rw [Array.toList_modify]; exact modify_eq_set f _ j e he
theorem set_nodup {es : List MapEntry} {j : Nat} {e f : MapEntry} (he : es[j]? = some e) (hb : f.born = e.born) : (es.set j f).map (·.born) = es.map (·.born) := by
  rw [List.map_set, hb]
  refine List.ext_getElem? fun i => ?_
  rw [List.getElem?_set]
  split
  · rename_i hij; subst hij
    obtain ⟨h1, h2⟩ := List.getElem?_eq_some_iff.1 he
    rw [List.getElem?_map, he]; simp [h1]
  · rfl
theorem MapAt.set {es : Array MapEntry} {c : Nat} (h : MapAt kv vv w b l es c) {X : World} {j : Nat} {e f : MapEntry} {x : κ} {v : β} {es' : Array MapEntry} (he : es.toList[j]? = some e) (hes : es'.toList = es.toList.set j f) (hb : f.born = e.born) (hk : f.key = kv x) (hv : f.val = vv v) (hX : X.heap[b]? = some (.map es' c)) :
    MapAt kv vv X b (l.set j (x, v)) es' c := by
  have hlt := (List.getElem?_eq_some_iff.1 he).1
  refine ⟨hX, fun y hy => ?_, by rw [hes, set_nodup he hb]; exact h.born, ?_⟩
  · rw [hes] at hy
    rcases List.mem_or_eq_of_mem_set hy with hy | rfl
    · exact h.old y hy
    · rw [hb]; exact h.old e (List.mem_of_getElem? he)
  · rw [hes, List.map_set, List.map_set, h.rd]; simp [prE, prK, hk, hv]
theorem MapAt.push {es : Array MapEntry} {c : Nat} (h : MapAt kv vv w b l es c) {X : World} {x : κ} {v : β} (hX : X.heap[b]? = some (.map (es.push { key := kv x, val := vv v, born := c }) (c + 1))) :
    MapAt kv vv X b (l ++ [(x, v)]) (es.push { key := kv x, val := vv v, born := c }) (c + 1) := by
  refine ⟨hX, fun y hy => ?_, ?_, by simp [h.rd, prE, prK]⟩
  · simp only [Array.toList_push, List.mem_append, List.mem_singleton] at hy
    rcases hy with hy | rfl
    · have := h.old y hy; omega
    · show c < c + 1; omega
  · simp only [Array.toList_push, List.map_append, List.map_cons, List.map_nil]
    rw [List.nodup_append]
    refine ⟨h.born, by simp, fun a ha d hd => ?_⟩
    obtain ⟨y, hy, rfl⟩ := List.mem_map.1 ha
    simp only [List.mem_singleton] at hd
    have := h.old y hy; omega
structure MapE (kv : κ → Value) (vv : β → Value) (w : World) (b : Nat) (l : List (κ × β)) (j s : Nat) : Prop where
 out : ∃ es clock, MapAt kv vv w b l es clock ∧ ∃ e, es.toList[j]? = some e ∧ e.born = s
theorem MapE.block {X : World} {j s : Nat} (h : MapE kv vv w b l j s) (hX : X.heap[b]? = w.heap[b]?) : MapE kv vv X b l j s := by
 obtain ⟨es, c, h, q⟩ := h.out; exact ⟨es, c, ⟨hX.trans h.at_, h.old, h.born, h.rd⟩, q⟩
theorem MapE.lt {j s : Nat} (h : MapE kv vv w b l j s) : b < w.heap.size := by obtain ⟨es, c, h, _⟩ := h.out; exact (Array.getElem?_eq_some_iff.1 h.at_).1
theorem MapE.ext {X : World} {j s : Nat} (h : MapE kv vv w b l j s) (e : Ext w X) : MapE kv vv X b l j s := h.block (e.block b h.lt)
section
variable [DecidableEq κ]
theorem run_update {t e : TypeId} (ht : P.underlying t = some (.map k e)) (h : MapS kv vv w b l) (K : KLaw P k kv) (x : κ) (v : β) :
    ∃ X, (Instr.mapUpdate t (.map (some b)) (kv x) (vv v)).run P w = .ok () X ∧ MapS kv vv X b (updM x v l) ∧ TurnsM b w X := by
  obtain ⟨es, c, h⟩ := h
  rcases h.find K x w with ⟨h1, h2⟩ | ⟨j, e0, p, h1, h2, h3, h4, h5, h6⟩
  · refine ⟨setBlock w b (.map (es.push { key := kv x, val := vv v, born := c }) (c + 1)), ?_, ⟨es.push { key := kv x, val := vv v, born := c }, c + 1, ?_⟩, turnsM_set _ h.at_ rfl⟩
    · simp [Instr.mapUpdate, run_underlying ht, MapKept.run_getObj_map h.at_, K.check, h1, Result.andThen, MapKept.run_setObj_map _ h.at_, setBlock]
    · rw [updM_none h2]; exact h.push (heap_setBlock_same h.at_ _)
  · have h2' : es[j]? = some e0 := by simpa using h2
    refine ⟨setBlock w b (.map (es.modify j fun e => { e with key := kv x, val := vv v }) c), ?_, ⟨es.modify j fun e => { e with key := kv x, val := vv v }, c, ?_⟩, turnsM_set _ h.at_ rfl⟩
    · simp [Instr.mapUpdate, run_underlying ht, MapKept.run_getObj_map h.at_, K.check, h1, h2', h5, K.stays, Result.andThen, MapKept.run_setObj_map _ h.at_, setBlock]
    · rw [updM_at h3 h4 h6]
      exact h.set h2 (modify_toList es j _ h2) rfl rfl rfl (heap_setBlock_same h.at_ _)
theorem run_entryM {t e : TypeId} (ht : P.underlying t = some (.map k e)) (h : MapS kv vv w b l) (K : KLaw P k kv) (x : κ) {z : β} (hz : (zeroValue e).run P w = .ok (vv z) w) :
    ∃ (X : World) (j s : Nat) (l' : List (κ × β)), (Instr.mapEntry t (.map (some b)) (kv x)).run P w = .ok (.tuple #[vv ((getM x l).getD z), goInt s]) X ∧ MapE kv vv X b l' j s ∧ TurnsM b w X ∧
      (∃ u, l'[j]? = some (x, u)) ∧ (∀ v, l'.set j (x, v) = updM x v l) := by
  obtain ⟨es, c, h⟩ := h
  rcases h.find K x w with ⟨h1, h2⟩ | ⟨j, e0, p, h1, h2, h3, h4, h5, h6⟩
  · refine ⟨setBlock w b (.map (es.push { key := kv x, val := vv z, born := c }) (c + 1)), es.size, c, l ++ [(x, z)], ?_, ⟨_, _, h.push (heap_setBlock_same h.at_ _), ⟨{ key := kv x, val := vv z, born := c }, by simp, rfl⟩⟩, turnsM_set _ h.at_ rfl, ⟨z, ?_⟩, fun v => ?_⟩
    · simp [Instr.mapEntry, run_underlying ht, MapKept.run_getObj_map h.at_, K.check, h1, hz, Result.andThen, MapKept.run_setObj_map _ h.at_, setBlock, getM_none h2]
    · have hlen : es.size = l.length := by have := congrArg List.length h.rd; simpa using this
      rw [hlen]; simp
    · have hlen : es.size = l.length := by have := congrArg List.length h.rd; simpa using this
      rw [updM_none h2, hlen, List.set_append_right _ _ (Nat.le_refl _)]; simp
  · have h2' : es[j]? = some e0 := by simpa using h2
    refine ⟨setBlock w b (.map (es.modify j fun e => { e with key := kv x }) c), j, e0.born, l.set j (x, p.2), ?_, ⟨_, _, h.set h2 (modify_toList es j _ h2) rfl rfl ?_ (heap_setBlock_same h.at_ _), ⟨{ e0 with key := kv x }, by rw [modify_toList es j _ h2, List.getElem?_set_self (List.getElem?_eq_some_iff.1 h2).1], rfl⟩⟩, turnsM_set _ h.at_ rfl, ⟨p.2, ?_⟩, fun v => ?_⟩
    · simp [Instr.mapEntry, run_underlying ht, MapKept.run_getObj_map h.at_, K.check, h1, h2', h5, K.stays, Result.andThen, MapKept.run_setObj_map _ h.at_, setBlock, getM_at h3 h4 h6]
    · obtain ⟨q, hq, _, hv⟩ := h.get h2
      rw [h3] at hq; cases hq; exact hv
    · rw [List.getElem?_set_self (List.getElem?_eq_some_iff.1 h3).1]
    · rw [updM_at h3 h4 h6, List.set_set]
end
theorem find_idx {es : Array MapEntry} {j : Nat} {e : MapEntry} (hn : (es.toList.map (·.born)).Nodup) (he : es.toList[j]? = some e) : es.findIdx? (fun x => (x.born : Int) == (e.born : Int)) = some j := by
 have hj : j < es.size := by have := (List.getElem?_eq_some_iff.1 he).1; simpa using this
 have hv : es[j] = e := by have := (List.getElem?_eq_some_iff.1 he).2; simpa using this
 rw [Array.findIdx?_eq_some_iff_getElem]
 refine ⟨hj, by simp [hv], fun i hi => ?_⟩
 have hi' : i < es.size := by omega
 simp only [beq_iff_eq, Int.natCast_inj]
 intro e1
 rw [← hv] at e1
 exact List.pairwise_iff_getElem.1 hn i j (by simpa using hi') (by simpa using hj) hi (by simpa using e1)
theorem run_entryS {t : TypeId} {j s : Nat} (h : MapE kv vv w b l j s) (x : κ) (v : β) {y : κ} {u : β} (hy : l[j]? = some (y, u)) (hxy : y = x) :
  ∃ X, (Instr.entryStore t (.map (some b)) (goInt s) (vv v)).run P w = .ok () X ∧ MapS kv vv X b (l.set j (x, v)) ∧ TurnsM b w X := by
 obtain ⟨es, c, h0, e0, h2, rfl⟩ := h.out
 obtain ⟨p, hp, hk, _⟩ := h0.get h2
 rw [hy] at hp; cases hp; subst hxy
 refine ⟨setBlock w b (.map (es.modify j fun e => { e with val := vv v }) c), ?_, ⟨_, _, h0.set h2 (modify_toList es j _ h2) rfl hk rfl (heap_setBlock_same h0.at_ _)⟩, turnsM_set _ h0.at_ rfl⟩
 simp [Instr.entryStore, asIntOf, MapKept.run_getObj_map h0.at_, Result.andThen, asInt, goInt, find_idx h0.born h2, MapKept.run_setObj_map _ h0.at_, setBlock]
end
section
variable {κ β : Type} {P : Program} {kv : κ → Value} {vv : β → Value} {k : TypeId} {w : World} {b r : Nat} {l left : List (κ × β)}
structure RangeS (kv : κ → Value) (vv : β → Value) (w : World) (b r : Nat) (l left : List (κ × β)) : Prop where
 out : ∃ es clock since seen c0, MapAt kv vv w b l es clock ∧ w.heap[r]? = some (.mapIter (some b) since seen c0) ∧ (∀ x ∈ es.toList, x.born < since) ∧ since ≤ c0 ∧ since ≤ clock ∧ (leftOf es seen).toList.map prE = left.map (prK kv vv)
theorem RangeS.map (h : RangeS kv vv w b r l left) : MapS kv vv w b l := by obtain ⟨es, c, _, _, _, h, _⟩ := h.out; exact ⟨es, c, h⟩
theorem RangeS.lt (h : RangeS kv vv w b r l left) : r < w.heap.size := by obtain ⟨es, c, _, _, _, _, h, _⟩ := h.out; exact (Array.getElem?_eq_some_iff.1 h).1
theorem RangeS.blocks {X : World} (h : RangeS kv vv w b r l left) (hb : X.heap[b]? = w.heap[b]?) (hr : X.heap[r]? = w.heap[r]?) : RangeS kv vv X b r l left := by
 obtain ⟨es, c, s, sn, c0, h, q, rest⟩ := h.out; exact ⟨es, c, s, sn, c0, ⟨hb.trans h.at_, h.old, h.born, h.rd⟩, hr.trans q, rest⟩
theorem RangeS.ext {X : World} (h : RangeS kv vv w b r l left) (e : Ext w X) : RangeS kv vv X b r l left := h.blocks (e.block b h.map.lt) (e.block r h.lt)
theorem RangeS.kept {X : World} {n : Nat} (h : RangeS kv vv w b r l left) (hb : X.heap[b]? = w.heap[b]?) (hk : KeepsFrom n w X) (hr : n ≤ r) : RangeS kv vv X b r l left := by
 obtain ⟨es, c, s, sn, c0, h, q, rest⟩ := h.out
 exact ⟨es, c, s, sn, c0, ⟨hb.trans h.at_, h.old, h.born, h.rd⟩, hk.same r _ hr q rfl, rest⟩
theorem run_rangeS {t e : TypeId} (ht : P.underlying t = some (.map k e)) (h : MapS kv vv w b l) :
  ∃ X, (Instr.range t (.map (some b))).run P w = .ok (.pointer (some ⟨w.heap.size, 0, none⟩)) X ∧ RangeS kv vv X b w.heap.size l l ∧ Ext w X ∧ X.heap.size = w.heap.size + 1 := by
 have hlt := h.lt
 obtain ⟨es, c, h⟩ := h
 have hE : Ext w (w.alloc (.mapIter (some b) c #[] c)) := Ext.alloc (Ext.refl _) _
 exact ⟨_, run_range_map w t k e b es c ht h.at_, ⟨es, c, c, #[], c, ⟨(hE.block b hlt).trans h.at_, h.old, h.born, h.rd⟩, World.alloc_heap_new w _, h.old, Nat.le_refl _, Nat.le_refl _, by unfold leftOf; rw [Array.toList_filter, List.filter_eq_self.2 (by simp)]; exact h.rd⟩, hE, by simp⟩
theorem filter_born : ∀ {L : List MapEntry} {i : Nat} {e : MapEntry}, (L.map (·.born)).Nodup → L[i]? = some e → L.filter (fun x => !(x.born == e.born)) = L.eraseIdx i
 | [], _, _, _, h => by simp at h
 | a :: r, 0, e, hn, h => by
  simp only [List.getElem?_cons_zero, Option.some.injEq] at h
  subst h
  simp only [List.map_cons, List.nodup_cons] at hn
  rw [List.filter_cons_of_neg (by simp), List.eraseIdx_cons_zero, List.filter_eq_self]
  intro x hx
  have : x.born ≠ a.born := fun e => hn.1 (e ▸ List.mem_map_of_mem hx)
  simp [this]
 | a :: r, i + 1, e, hn, h => by
  simp only [List.map_cons, List.nodup_cons] at hn
  have h' : r[i]? = some e := by simpa using h
  have : a.born ≠ e.born := fun q => hn.1 (q ▸ List.mem_map_of_mem (List.mem_of_getElem? h'))
  rw [List.filter_cons_of_pos (by simp [this]), List.eraseIdx_cons_succ, filter_born hn.2 h']
theorem left_push {es : Array MapEntry} {seen : Array Nat} {i : Nat} {e : MapEntry} (hn : (es.toList.map (·.born)).Nodup) (he : (leftOf es seen).toList[i]? = some e) : (leftOf es (seen.push e.born)).toList = (leftOf es seen).toList.eraseIdx i := by
 have h1 : (leftOf es (seen.push e.born)).toList = (leftOf es seen).toList.filter (fun x => !(x.born == e.born)) := by
  unfold leftOf
  simp only [Array.toList_filter, List.filter_filter]
  refine List.filter_congr fun x _ => ?_
  rw [contains_push]
  cases seen.contains x.born <;> cases (x.born == e.born) <;> rfl
 rw [h1]
 refine filter_born ?_ he
 have : (leftOf es seen).toList.Sublist es.toList := by unfold leftOf; rw [Array.toList_filter]; exact List.filter_sublist
 exact (this.map _).nodup hn
theorem run_nextS (h : RangeS kv vv w b r l left) (ty : TypeId) :
    (left = [] ∧ (Instr.next (.pointer (some ⟨r, 0, none⟩)) false ty).run P w = .ok (.tuple #[.bool false]) w) ∨
    ∃ i p X, left[i]? = some p ∧ (Instr.next (.pointer (some ⟨r, 0, none⟩)) false ty).run P w = .ok (.tuple #[.bool true, kv p.1, vv p.2]) X ∧ RangeS kv vv X b r l (left.eraseIdx i) ∧ TurnsM r w X ∧
      (Instr.entry (.pointer (some ⟨r, 0, none⟩))).run P X = .ok (.tuple #[kv p.1, vv p.2]) X := by
  obtain ⟨es, c, since, seen, c0, h, hr, hold, hsc, hsk, hl⟩ := h.out
  have hne : r ≠ b := fun e => by rw [e, h.at_] at hr; cases hr
  rcases run_next_at (P := P) w ty r b since c0 seen es c hr h.at_ hold hsc with ⟨h0, hrun⟩ | ⟨e, he, w1, hal, hrun⟩
  · refine .inl ⟨?_, hrun⟩
    have : (leftOf es seen).toList = [] := by rw [Array.eq_empty_of_size_eq_zero h0]
    rw [this] at hl
    exact List.map_eq_nil_iff.1 hl.symm
  · obtain ⟨i, hi⟩ := List.getElem?_of_mem he
    have hem := (mem_left he).1
    obtain ⟨p, hp, hpe⟩ : ∃ p, left[i]? = some p ∧ prE e = prK kv vv p := by
      have := congrArg (fun q => q[i]?) hl
      simp only [List.getElem?_map, hi, Option.map_some] at this
      cases hp : left[i]? with
      | none => rw [hp] at this; cases this
      | some p => rw [hp] at this; exact ⟨p, rfl, Option.some.inj this⟩
    simp only [prE, prK, Prod.mk.injEq] at hpe
    have hr1 : w1.heap[r]? = some (.mapIter (some b) since seen c0) := by rcases hal with rfl | rfl <;> exact hr
    have hb1 : w1.heap[b]? = some (.map es c) := by rcases hal with rfl | rfl <;> exact h.at_
    have hset := heap_set (o' := .mapIter (some b) since (seen.push e.born) c) hr1
    have hb' : (setBlock w1 r (.mapIter (some b) since (seen.push e.born) c)).heap[b]? = some (.map es c) := (hset.2 b (fun e1 => hne e1.symm)).trans hb1
    refine .inr ⟨i, p, _, hp, by rw [← hpe.1, ← hpe.2]; exact hrun, ⟨es, c, since, seen.push e.born, c, ⟨hb', h.old, h.born, h.rd⟩, hset.1, hold, hsk, hsk, ?_⟩, ?_, ?_⟩
    · rw [left_push h.born hi, Go.ChangeMaps.map_eraseIdx, hl, Go.ChangeMaps.map_eraseIdx]
    · rcases hal with rfl | rfl
      · exact turnsM_set _ hr rfl
      · exact ⟨rfl, rfl, rfl, by simp [setBlock], fun j hj => hset.2 j hj, ⟨_, hr, rfl⟩⟩
    · rw [← hpe.1, ← hpe.2]
      exact run_entry_at _ r b since seen es c e hset.1 hb' hem h.born
end
section
variable {P : Program} {ev : Operand → Value} {o : Oper} {w X : World} {N : Value → World → Prop}
theorem sn_map {κ β : Type} (kv : κ → Value) (vv : β → Value) (h1 : (execOp ev o).run P w = .ok (.value (.map (some w.heap.size))) (w.alloc (.map #[] 0)))
  (h : ∀ O X, w.heap.size = O → X.heap.size = O + 1 → Ext w X → MapS kv vv X O [] → N (.map (some O)) X) : StepN P ev o w N :=
 sn_eff h1 (h _ _ rfl (by simp) (Ext.alloc (Ext.refl _) _) (MapS.made w))
theorem ex_mapU {t : TypeId} {m x y : Operand} {mv kx vx : Value} (hop : o.op = .mapUpdate t m x y) (hm : ev m = mv) (hx : ev x = kx) (hy : ev y = vx) (h : (Instr.mapUpdate t mv kx vx).run P w = .ok () X) : (execOp ev o).run P w = .ok .skip X := by
 simp [execOp, hop, hm, hx, hy, h, Result.andThen]
theorem ex_mapE {t : TypeId} {m x : Operand} {mv kx v : Value} (hop : o.op = .mapEntry t m x) (hm : ev m = mv) (hx : ev x = kx) (h : (Instr.mapEntry t mv kx).run P w = .ok v X) : (execOp ev o).run P w = .ok (.value v) X := by
 simp [execOp, hop, hm, hx, h, Result.andThen]
theorem ex_entS {t : TypeId} {m s x : Operand} {mv sv v : Value} (hop : o.op = .entryStore t m s x) (hm : ev m = mv) (hs : ev s = sv) (hx : ev x = v) (h : (Instr.entryStore t mv sv v).run P w = .ok () X) : (execOp ev o).run P w = .ok .skip X := by
 simp [execOp, hop, hm, hs, hx, h, Result.andThen]
theorem ex_range {t : TypeId} {m : Operand} {mv v : Value} (hop : o.op = .range t m) (hm : ev m = mv) (h : (Instr.range t mv).run P w = .ok v X) : (execOp ev o).run P w = .ok (.value v) X := by
 simp [execOp, hop, hm, h, Result.andThen]
theorem ex_next {i : Operand} {iv v : Value} (hop : o.op = .next i false) (hm : ev i = iv) (h : (Instr.next iv false o.type).run P w = .ok v X) : (execOp ev o).run P w = .ok (.value v) X := by
 simp [execOp, hop, hm, h, Result.andThen]
theorem ex_entry {i : Operand} {iv v : Value} (hop : o.op = .entry i) (hm : ev i = iv) (h : (Instr.entry iv).run P w = .ok v X) : (execOp ev o).run P w = .ok (.value v) X := by
 simp [execOp, hop, hm, h, Result.andThen]
theorem ex_lookup {t : TypeId} {m x : Operand} {ok : Bool} {mv kx v : Value} (hop : o.op = .lookup t m x ok) (hm : ev m = mv) (hx : ev x = kx) (h : (Instr.lookup t mv kx ok).run P w = .ok v X) : (execOp ev o).run P w = .ok (.value v) X := by
 simp [execOp, hop, hm, hx, h, Result.andThen]
end
section
variable {κ : Type} [DecidableEq κ] {P : Program} {k : TypeId} {kv : κ → Value} {w : World}
theorem find_ask (heq : ∀ (w : World) (a b : κ), (Op.equal k (kv a) (kv b)).run P w = .ok (decide (a = b)) w) (x : κ) : ∀ (ks : List κ) (es : List MapEntry) (i : Nat), es.map (·.key) = ks.map kv →
    ((Instr.findAsking k (kv x) es i).run P w = .ok none w ∧ x ∉ ks) ∨ ∃ j e, (Instr.findAsking k (kv x) es i).run P w = .ok (some (i + j, e.val)) w ∧ es[j]? = some e ∧ ks[j]? = some x ∧ ∀ q, q < j → ks[q]? ≠ some x
  | [], [], i, _ => .inl ⟨by simp [Instr.findAsking], by simp⟩
  | [], _ :: _, _, h => by simp at h
  | _ :: _, [], _, h => by simp at h
  | y :: ks, e :: es, i, h => by
    simp only [List.map_cons, List.cons.injEq] at h
    have he : (Op.equal k (kv x) e.key).run P w = .ok (decide (x = y)) w := by rw [h.1]; exact heq w x y
    by_cases hxy : x = y
    · subst hxy
      exact .inr ⟨0, e, by simp [Instr.findAsking, he, Result.andThen], rfl, rfl, fun q hq => by omega⟩
    · have hrun : (Instr.findAsking k (kv x) (e :: es) i).run P w = (Instr.findAsking k (kv x) es (i + 1)).run P w := by simp [Instr.findAsking, he, hxy, Result.andThen]
      rcases find_ask heq x ks es (i + 1) h.2 with ⟨h1, h2⟩ | ⟨j, e', h1, h2, h3, h4⟩
      · exact .inl ⟨hrun.trans h1, by simp [hxy, h2]⟩
      · refine .inr ⟨j + 1, e', by rw [hrun, h1, show i + 1 + j = i + (j + 1) by omega], by simpa using h2, by simpa using h3, fun q hq => ?_⟩
        cases q with
        | zero => simpa using fun e : y = x => hxy e.symm
        | succ q => simpa using h4 q (by omega)
theorem klaw_of {d : TypeDesc} (hu : P.underlying k = some d) (hd : ∀ a b : Value, Instr.sameNow d a b = none) (inj : ∀ {a b : κ}, kv a = kv b → a = b) (check : ∀ (w : World) (em : Bool) (a : κ), (Instr.checkKey em 10000 k (kv a)).run P w = .ok () w)
  (heq : ∀ (w : World) (a b : κ), (Op.equal k (kv a) (kv b)).run P w = .ok (decide (a = b)) w) (hs : ∀ a : κ, Instr.sameBits 10000 (kv a) (kv a) = true) : KLaw P k kv where
 inj := inj
 check := check
 stays w a := by simp [Instr.keyThatStays, hs a]
 find w x ks es h := by
  cases es with
  | nil =>
   have : ks = [] := by simpa using h.symm
   subst this
   exact .inl ⟨by simp [Instr.findKey, run_underlying hu, Instr.findNow, Result.andThen], by simp⟩
  | cons e es =>
   have hrun : (Instr.findKey k (kv x) (e :: es)).run P w = (Instr.findAsking k (kv x) (e :: es) 0).run P w := by simp [Instr.findKey, run_underlying hu, Instr.findNow, hd, Result.andThen]
   rcases find_ask heq x ks (e :: es) 0 h (w := w) with ⟨h1, h2⟩ | ⟨j, e', h1, h2⟩
   · exact .inl ⟨hrun.trans h1, h2⟩
   · exact .inr ⟨j, e', by rw [hrun, h1, Nat.zero_add], h2⟩
end
section
variable {κ : Type}
theorem Mv.mono {n n' : Nat} {A B : World} (h : Mv n A B) (hn : n' ≤ n) : Mv n' A B := ⟨h.os, h.tape, h.output, h.size, h.cells, fun k hk hl => h.below k (by omega) hl⟩
variable {P : Program} {n : Nat} {L : List Value} {ws : List (Nat × Value)} {w : World} {Q : Exit → Act → World → Prop} {m : Nat} {Ds : List Nat}
end
instance {κ β : Type} {kv : κ → Value} {vv : β → Value} {w w' : World} {b : Nat} {l : List (κ × β)} : MvC w w' (MapS kv vv w b l) (MapS kv vv w' b l) := ⟨fun e h => MapS.ext h e⟩
instance {κ β : Type} {kv : κ → Value} {vv : β → Value} {w w' : World} {b r : Nat} {l left : List (κ × β)} : MvC w w' (RangeS kv vv w b r l left) (RangeS kv vv w' b r l left) := ⟨fun e h => RangeS.ext h e⟩
end Go.Proofs.YtfmoabgjaclkpaaGreatDoor

namespace Go.Proofs.YtfmoabgjaclkpaaGreatDoor
open Go.RowKit
theorem own_app1k {α : Type} {R : Rep α} {P : Program} {t ty e : TypeId} {z : Value} {size bytes : Nat} (E : ElemT P t e z size bytes) {n₀ : Nat} {v : Value} {w : World} {l : List α} (h : OwnL R n₀ e size v w l) (hn : n₀ ≤ w.heap.size) {k : Nat} (hl : l.length = k)
    {O c : Nat} {x : α} {d : List Value} {F : List Nat} (hsz : d.length = size) (hcell : ∀ j u, d[j]? = some u → w.cell? ⟨O, j, none⟩ = some u) (h1 : ∀ u ∈ d, u.oneCell' = true)
    (hR : R.rel w d x F) (hF : ∀ b ∈ F, v.ownBlock ≠ some b) (hb : (k + 1) * bytes ≤ 140737488355328) (hmax : k + 1 ≤ 9223372036854775807) :
    ∃ g cap w', (Builtin.append_ #[t, t] ty #[v, .slice (some ⟨O, 0, none⟩) 1 c]).run P w = .ok (.slice (some ⟨g, 0, none⟩) (k + 1) cap) w' ∧ OwnL R n₀ e size (.slice (some ⟨g, 0, none⟩) (k + 1) cap) w' (l ++ [x]) ∧ Grew n₀ w w' ∧ w.grownBy w' v.ownBlock := by
  subst hl
  obtain ⟨cs, h2, h3, h4, h5⟩ := h
  obtain ⟨i, hi, hz0, hz1, hz2⟩ := info_parts E.info
  obtain ⟨v', w', hrun, hown, hg, hiff, hat⟩ := run_append_own_at (P := P) w n₀ t ty e i z size bytes E.under hi hz0 hz1 hz2 E.zs E.pos v l.length cs.flatten h4 ⟨O, 0, none⟩ 1 c d (by rw [hsz, Nat.one_mul]) (fun j u hj => by
    rw [Addr.add_mid, Nat.zero_add]; exact hcell j u hj) h1 (by unfold maxLen; exact hmax) hb hn
  have hnb : ∀ F : List Nat, (∀ b ∈ F, v.ownBlock ≠ some b) → (∀ b ∈ F, b < w.heap.size) → (∀ b ∈ F, v'.ownBlock ≠ some b) ∧ ∀ b ∈ F, ∀ o u, w.cell? ⟨b, o, none⟩ = some u → w'.cell? ⟨b, o, none⟩ = some u := by
    intro F hF hFl
    refine ⟨fun b hbF hv' => ?_, fun b hbF o u hu => hg.cell hu (fun e => hF b hbF e.symm)⟩
    rcases hat with e1 | e1
    · exact hF b hbF (by rw [← e1]; exact hv')
    · rw [e1] at hv'; cases hv'; have := hFl _ hbF; omega
  have hO : OwnL R n₀ e size v' w' (l ++ [x]) := ⟨cs ++ [d], by simp [h2], by
      intro y hy
      rcases List.mem_append.1 hy with hy | hy
      · exact h3 y hy
      · rw [List.mem_singleton.1 hy]; exact hsz, by rw [List.flatten_append, List.length_append]; simpa using hown, by
      intro j y c hx hc
      rcases Nat.lt_or_ge j l.length with hj | hj
      · rw [List.getElem?_append_left hj] at hx
        rw [List.getElem?_append_left (by rw [h2]; exact hj)] at hc
        obtain ⟨F, q1, q2⟩ := h5 j y c hx hc
        obtain ⟨k1, k2⟩ := hnb F q2 (R.lt q1)
        exact ⟨F, R.keep q1 k2, k1⟩
      · rw [List.getElem?_append_right hj] at hx
        rw [List.getElem?_append_right (by rw [h2]; exact hj), h2] at hc
        match hj' : j - l.length, hx, hc with
        | 0, hx, hc =>
          simp at hx hc; subst hx hc
          obtain ⟨k1, k2⟩ := hnb F hF (R.lt hR)
          exact ⟨F, R.keep hR k2, k1⟩
        | _ + 1, hx, _ => simp at hx⟩
  rcases hown.2 with ⟨q, _⟩ | ⟨g, cap, cur, q, _, _, q3, _⟩
  · have := (hiff.1 q).2; omega
  · subst q
    exact ⟨g, cap, w', hrun, hO, ⟨hg.size, fun U hU hUn => Ext.own' hU h4 hUn hg⟩, hg⟩
theorem own_not {v : Value} {n b : Nat} (h : ∀ b, v.ownBlock = some b → n ≤ b) (hb : b < n) : v.ownBlock ≠ some b := fun e => by have := h b e; omega
theorem own_not2 {v : Value} {m b : Nat} (h : ∀ b, v.ownBlock = some b → b < m) (hb : m ≤ b) : v.ownBlock ≠ some b := fun e => by have := h b e; omega
theorem OwnL.turn {α : Type} {R : Rep α} {n₀ : Nat} {e : TypeId} {size : Nat} {v : Value} {w X : World} {l : List α} {O : Nat} (h : OwnL R n₀ e size v w l) (ho : Turns O w X) (h1 : v.ownBlock ≠ some O) (h2 : ∀ c x F, R.rel w c x F → ∀ b ∈ F, b ≠ O) : OwnL R n₀ e size v X l := by
  obtain ⟨cs, q1, q2, q3, q4⟩ := h
  refine ⟨cs, q1, q2, ⟨q3.1, ?_⟩, fun j x c hx hc => ?_⟩
  · rcases q3.2 with q | ⟨g, cap, cur, rfl, hb, hcur, rest⟩
    · exact .inl q
    · refine .inr ⟨g, cap, cur, rfl, hb, ?_, rest⟩
      rw [ho.heap' g (fun e => h1 (by rw [← e]; rfl))]; exact hcur
  · obtain ⟨F, k1, k2⟩ := q4 j x c hx hc
    exact ⟨F, R.keep k1 (fun b hb o u hu => ho.cell (fun e => h2 _ _ _ k1 b hb e.symm) hu), k2⟩
theorem RowsAt.grownR {w w' : World} {r : Option Nat} {b : Nat} {l : List Int} (h : RowsAt w b l) (hg : w.grownBy w' r) (hne : r ≠ some b) : RowsAt w' b l :=
 ⟨h.1, fun _i hi => hg.cell (h.cell hi) (fun e => hne e.symm), fun _i hi => (BoxAt.grownR ⟨h.cell hi, h.free hi⟩ hg hne).2⟩
theorem RK.app {n₁ : Nat} {X : Nat → Prop} {A B C : World} (h : RK n₁ X A B) {α : Type} {R : Rep α} {n₀ : Nat} {e : TypeId} {size : Nat} {v : Value} {l : List α} (hg : B.grownBy C v.ownBlock) (ho : OwnL R n₀ e size v B l) (hX : ∀ k, v.ownBlock = some k → X k ∨ A.heap.size ≤ k) : RK n₁ X A C := by
 refine h.wrote (Y := fun k => v.ownBlock = some k) ⟨hg.os, hg.tape, hg.output, hg.size, fun k hk hx => hg.block k hk (fun e => hx e.symm), fun k o hk hc => ?_⟩ hX
 refine (hg.block k (Array.getElem?_eq_some_iff.1 hk).1 fun e => ?_).trans hk
 obtain ⟨cs, q1, q2, q3, q4⟩ := ho
 rcases q3.2 with ⟨rfl, _⟩ | ⟨g, cap, cur, rfl, hb, hcur, rest⟩
 · cases e
 · cases e; rw [hk] at hcur; cases hcur; cases hc
theorem KeepX.step {n₀ : Nat} {X : Nat → Prop} {A B C : World} (h : KeepX n₀ X A B) (e : Ext B C) (hn : n₀ ≤ B.heap.size) : KeepX n₀ X A C := h.trans (KeepX.of_ext e hn)
theorem KeepX.app {n₀ : Nat} {X : Nat → Prop} {A B C : World} (h : KeepX n₀ X A B) {v : Value} (hg : B.grownBy C v.ownBlock) (hb : ∀ b, v.ownBlock = some b → n₀ ≤ b) (hn : n₀ ≤ B.heap.size) : KeepX n₀ X A C :=
 ⟨T h.size hg.size, fun k hk hx => (hg.block k (Nat.lt_of_lt_of_le hk hn) (fun e => by have := hb k e.symm; omega)).trans (h.block k hk hx)⟩
theorem KeptX.turn {X : Nat → Prop} {A B C : World} (h : KeptX X A B) {O : Nat} (t : Turns O B C) (hO : A.heap.size ≤ O) : KeptX X A C :=
 ⟨by rw [t.size]; exact h.size, fun k o hk ho hx => by
  have hk1 := (Array.getElem?_eq_some_iff.1 hk).1
  rw [t.heap' k (by omega)]; exact h.cells k o hk ho hx⟩
def inR {α : Type} (S : Nat → Prop) (R : Rep α) : Rep α where
 rel w c x F := R.rel w c x F ∧ ∀ b ∈ F, S b
 keep := fun h hk => ⟨R.keep h.1 hk, h.2⟩
 lt := fun h => R.lt h.1
structure OwnS {α : Type} (S : Nat → Prop) (R : Rep α) (e : TypeId) (size : Nat) (v : Value) (w : World) (l : List α) : Prop where
 own : OwnL (inR S R) 0 e size v w l
 blk : ∀ b, v.ownBlock = some b → S b
theorem OwnS.nil {α : Type} (S : Nat → Prop) (R : Rep α) (e : TypeId) (size : Nat) (w : World) : OwnS S R e size (.slice none 0 0) w [] := ⟨OwnL.nil _ _ _ _ _, fun b h => by cases h⟩
theorem OwnS.ext {α : Type} {S : Nat → Prop} {R : Rep α} {e : TypeId} {size : Nat} {v : Value} {w w' : World} {l : List α} (h : OwnS S R e size v w l) (hE : Ext w w') : OwnS S R e size v w' l := ⟨h.own.ext hE, h.blk⟩
theorem OwnS.mv {α : Type} {S : Nat → Prop} {R : Rep α} {e : TypeId} {size m : Nat} {v : Value} {w w' : World} {l : List α} (h : OwnS S R e size v w l) (hm : Mv m w w') : OwnS S R e size v w' l := ⟨hm.own h.own, h.blk⟩
theorem OwnS.lt {α : Type} {S : Nat → Prop} {R : Rep α} {e : TypeId} {size : Nat} {v : Value} {w : World} {l : List α} (h : OwnS S R e size v w l) : ∀ b, v.ownBlock = some b → b < w.heap.size := h.own.lt
theorem OwnS.turn {α : Type} {S : Nat → Prop} {R : Rep α} {e : TypeId} {size : Nat} {v : Value} {w X : World} {l : List α} {O : Nat} (h : OwnS S R e size v w l) (ho : Turns O w X) (hO : ¬ S O) : OwnS S R e size v X l :=
 ⟨h.own.turn ho (fun e => hO (h.blk O e)) fun _c _x _F hr b hb e => hO (e ▸ hr.2 b hb), h.blk⟩
theorem OwnS.mono {α : Type} {S T : Nat → Prop} {R : Rep α} {e : TypeId} {size : Nat} {v : Value} {w : World} {l : List α} (h : OwnS S R e size v w l) (hST : ∀ k, k < w.heap.size → S k → T k) : OwnS T R e size v w l := by
 obtain ⟨⟨cs, h1, h2, h3, h4⟩, hb⟩ := h
 exact ⟨⟨cs, h1, h2, h3, fun j x c hx hc => by obtain ⟨F, q1, q2⟩ := h4 j x c hx hc; exact ⟨F, ⟨q1.1, fun b hb => hST b (R.lt q1.1 b hb) (q1.2 b hb)⟩, q2⟩⟩, fun b e => hST b (h3.lt b e).2 (hb b e)⟩
theorem OwnS.app {α : Type} {S : Nat → Prop} {R : Rep α} {P : Program} {t ty e : TypeId} {z : Value} {size bytes : Nat} (E : ElemT P t e z size bytes) {v : Value} {w : World} {l : List α} (h : OwnS S R e size v w l) {k : Nat} (hl : l.length = k)
    {O c : Nat} {x : α} {d : List Value} {F : List Nat} (hsz : d.length = size) (hcell : ∀ j u, d[j]? = some u → w.cell? ⟨O, j, none⟩ = some u) (h1 : ∀ u ∈ d, u.oneCell' = true)
    (hR : R.rel w d x F) (hF : ∀ b ∈ F, v.ownBlock ≠ some b) (hb : (k + 1) * bytes ≤ 140737488355328) (hmax : k + 1 ≤ 9223372036854775807) :
    ∃ g cap w', (Builtin.append_ #[t, t] ty #[v, .slice (some ⟨O, 0, none⟩) 1 c]).run P w = .ok (.slice (some ⟨g, 0, none⟩) (k + 1) cap) w' ∧ OwnS (fun b => S b ∨ b ∈ F ∨ w.heap.size ≤ b) R e size (.slice (some ⟨g, 0, none⟩) (k + 1) cap) w' (l ++ [x]) ∧
      (∀ U, Ext U w → (∀ b, S b → U.heap.size ≤ b) → Ext U w') ∧ w.grownBy w' v.ownBlock ∧ g < w'.heap.size ∧ (S g ∨ w.heap.size ≤ g) := by
  have hS : OwnL (inR (fun b => S b ∨ b ∈ F ∨ w.heap.size ≤ b) R) 0 e size v w l := by
    obtain ⟨cs, h1, h2, h3, h4⟩ := h.own
    exact ⟨cs, h1, h2, h3, fun j x c hx hc => by obtain ⟨F, q1, q2⟩ := h4 j x c hx hc; exact ⟨F, ⟨q1.1, fun b hb => .inl (q1.2 b hb)⟩, q2⟩⟩
  obtain ⟨cs, q1, q2, q3, q4⟩ := hS
  subst hl
  obtain ⟨i, hi, hz0, hz1, hz2⟩ := info_parts E.info
  obtain ⟨v', w', hrun, hown, hg, hiff, hat⟩ := run_append_own_at (P := P) w 0 t ty e i z size bytes E.under hi hz0 hz1 hz2 E.zs E.pos v l.length cs.flatten q3 ⟨O, 0, none⟩ 1 c d (by rw [hsz, Nat.one_mul]) (fun j u hj => by
    rw [Addr.add_mid, Nat.zero_add]; exact hcell j u hj) h1 (by unfold maxLen; exact hmax) hb (Nat.zero_le _)
  have hnb : ∀ F : List Nat, (∀ b ∈ F, v.ownBlock ≠ some b) → (∀ b ∈ F, b < w.heap.size) → (∀ b ∈ F, v'.ownBlock ≠ some b) ∧ ∀ b ∈ F, ∀ o u, w.cell? ⟨b, o, none⟩ = some u → w'.cell? ⟨b, o, none⟩ = some u := by
    intro F hF hFl
    refine ⟨fun b hbF hv' => ?_, fun b hbF o u hu => hg.cell hu (fun e => hF b hbF e.symm)⟩
    rcases hat with e1 | e1
    · exact hF b hbF (by rw [← e1]; exact hv')
    · rw [e1] at hv'; cases hv'; have := hFl _ hbF; omega
  have hO : OwnL (inR (fun b => S b ∨ b ∈ F ∨ w.heap.size ≤ b) R) 0 e size v' w' (l ++ [x]) := ⟨cs ++ [d], by simp [q1], by
      intro y hy
      rcases List.mem_append.1 hy with hy | hy
      · exact q2 y hy
      · rw [List.mem_singleton.1 hy]; exact hsz, by rw [List.flatten_append, List.length_append]; simpa using hown, by
      intro j y c hx hc
      rcases Nat.lt_or_ge j l.length with hj | hj
      · rw [List.getElem?_append_left hj] at hx
        rw [List.getElem?_append_left (by rw [q1]; exact hj)] at hc
        obtain ⟨F', p1, p2⟩ := q4 j y c hx hc
        obtain ⟨k1, k2⟩ := hnb F' p2 (R.lt p1.1)
        exact ⟨F', ⟨R.keep p1.1 k2, p1.2⟩, k1⟩
      · rw [List.getElem?_append_right hj] at hx
        rw [List.getElem?_append_right (by rw [q1]; exact hj), q1] at hc
        match hj' : j - l.length, hx, hc with
        | 0, hx, hc =>
          simp at hx hc; subst hx hc
          obtain ⟨k1, k2⟩ := hnb F hF (R.lt hR)
          exact ⟨F, ⟨R.keep hR k2, fun b hb => .inr (.inl hb)⟩, k1⟩
        | _ + 1, hx, _ => simp at hx⟩
  have hblk : ∀ b, v'.ownBlock = some b → S b ∨ w.heap.size ≤ b := fun b hb => by
    rcases hat with e1 | e1
    · exact .inl (h.blk b (by rw [← e1]; exact hb))
    · rw [e1] at hb; cases hb; exact .inr (Nat.le_refl _)
  have hlt' := hO.lt
  rcases hown.2 with ⟨q, _⟩ | ⟨g, cap, cur, q, _, _, _, _⟩
  · have := (hiff.1 q).2; omega
  · subst q
    exact ⟨g, cap, w', hrun, ⟨hO, fun b hb => (hblk b hb).elim .inl (fun h => .inr (.inr h))⟩, fun U hU hUS => ⟨hg.os.trans hU.os, hg.tape.trans hU.tape, hg.output.trans hU.output, T hU.size hg.size, fun k hk => (hg.block k (Nat.lt_of_lt_of_le hk hU.size) (fun e => by have := hUS k (h.blk k e.symm); omega)).trans (hU.block k hk)⟩, hg, hlt' g rfl, hblk g rfl⟩
def trunc (w : World) (g : Nat) : World := { w with heap := w.heap.extract 0 g }
theorem trunc_block (w : World) {g k : Nat} (hk : k < g) : (trunc w g).heap[k]? = w.heap[k]? := by
 show (w.heap.extract 0 g)[k]? = _
 rw [Array.getElem?_extract]
 split
 · rw [Nat.zero_add]
 · rw [Array.getElem?_eq_none]; omega
theorem trunc_ext (w : World) (g : Nat) : Ext (trunc w g) w := ⟨rfl, rfl, rfl, by simp [trunc]; omega, fun k hk => (trunc_block w (by simp [trunc] at hk; omega)).symm⟩
theorem trunc_size (w : World) (g : Nat) : (trunc w g).heap.size ≤ g := by simp [trunc]; omega
section
variable {w w' : World} {g : Nat}
theorem old_block (hU : ∀ U, Ext U w → U.heap.size ≤ g → Ext U w') {b : Nat} (hb : b < g) (hw : b < w.heap.size) : w'.heap[b]? = w.heap[b]? := by
 rw [← trunc_block w hb]
 exact (hU _ (trunc_ext w g) (trunc_size w g)).block b (by simp [trunc]; omega)
theorem old_cell (hU : ∀ U, Ext U w → U.heap.size ≤ g → Ext U w') {b o : Nat} {v : Value} (h : w.cell? ⟨b, o, none⟩ = some v) (hb : b < g) : w'.cell? ⟨b, o, none⟩ = some v :=
 (World.cell?_of_block (w := w) (old_block hU hb (World.block_lt_of_cell? _ _ h))).trans h
theorem old_box (hU : ∀ U, Ext U w → U.heap.size ≤ g → Ext U w') {b o : Nat} {v : Value} (h : BoxAt w b o v) (hb : b < g) : BoxAt w' b o v :=
 ⟨old_cell hU h.1 hb, (World.frozen?_of_block (old_block hU hb h.lt)).trans h.2⟩
end
theorem KeepX.box {n₀ : Nat} {X : Nat → Prop} {A B : World} (hk : KeepX n₀ X A B) {b o : Nat} {v : Value} (h : BoxAt A b o v) (hb : b < n₀) (hx : ¬ X b) : BoxAt B b o v :=
 ⟨(hk.cell hb hx).trans h.1, (World.frozen?_of_block (hk.block b hb hx)).trans h.2⟩
theorem OwnS.cap {α : Type} {S : Nat → Prop} {R : Rep α} {e : TypeId} {size : Nat} {a : Option Addr} {n c : Nat} {w : World} {l : List α} (h : OwnS S R e size (.slice a n c) w l) (hl : l.length = n) : n ≤ c := by
 obtain ⟨⟨cs, h1, h2, h3, h4⟩, hb⟩ := h
 rcases h3.2 with ⟨q, q2⟩ | ⟨g, cap, cur, q, _, _, hc, _⟩
 · injection q with r1 r2 r3; omega
 · injection q with r1 r2 r3; omega
instance {α : Type} {S : Nat → Prop} {R : Rep α} {e : TypeId} {size : Nat} {v : Value} {w w' : World} {l : List α} : MvC w w' (OwnS S R e size v w l) (OwnS S R e size v w' l) := ⟨fun e h => h.ext e⟩
end Go.Proofs.YtfmoabgjaclkpaaGreatDoor

namespace Go.Proofs.YtfmoabgjaclkpaaGreatDoor
open Go.RowKit
structure Rec where
 (c n t o w k : Int)
 x : ByteArray
instance : Inhabited Rec := ⟨⟨0, 0, 0, 0, 0, 0, ⟨#[]⟩⟩⟩
instance : DecidableEq Rec := fun a b =>
 decidable_of_iff (a.c = b.c ∧ a.n = b.n ∧ a.t = b.t ∧ a.o = b.o ∧ a.w = b.w ∧ a.k = b.k ∧ a.x = b.x) ⟨fun ⟨h1, h2, h3, h4, h5, h6, h7⟩ => by
  cases a; cases b; simp only [] at *; subst h1 h2 h3 h4 h5 h6 h7; rfl, fun h => by subst h; exact ⟨rfl, rfl, rfl, rfl, rfl, rfl, rfl⟩⟩
def Rec.enc (x : Rec) : List Value := [.int .i64 x.c, .int .i64 x.n, .int .i64 x.t, .int .i64 x.o, .int .i64 x.w, .int .i64 x.k, .string x.x]
def Rec.val (x : Rec) : Value := .agg #[.int .i64 x.c, .int .i64 x.n, .int .i64 x.t, .int .i64 x.o, .int .i64 x.w, .int .i64 x.k, .string x.x]
def Rec.zero : Rec := ⟨0, 0, 0, 0, 0, 0, ⟨#[]⟩⟩
def Rec.key (x : Rec) : Int × Int := (x.c, x.n)
def Rec.tgt (x : Rec) : Int × Int := (x.o, x.w)
namespace Rep
def cmpI (a b : Int) : Int := if a < b then -1 else if a > b then 1 else 0
theorem cmpI_neg {a b : Int} : cmpI a b < 0 ↔ a < b := by unfold cmpI; split <;> (try split) <;> omega
theorem cmpI_zero {a b : Int} : cmpI a b = 0 ↔ a = b := by unfold cmpI; split <;> (try split) <;> omega
def or2 (x y : Int) : Int := if x = 0 then y else x
def listC (a b : Rec) : Int := or2 (cmpI a.c b.c) (cmpI a.n b.n)
def befC (a b : Rec) : Int := or2 (cmpI a.t b.t) (listC a b)
def ltL (a b : Rec) : Prop := a.c < b.c ∨ a.c = b.c ∧ a.n < b.n
def ltB (a b : Rec) : Prop := a.t < b.t ∨ a.t = b.t ∧ ltL a b
theorem listC_neg {a b : Rec} : listC a b < 0 ↔ ltL a b := by
 unfold listC or2 ltL
 have h1 := cmpI_neg (a := a.c) (b := b.c); have h2 := cmpI_zero (a := a.c) (b := b.c); have h3 := cmpI_neg (a := a.n) (b := b.n)
 split <;> omega
theorem befC_neg {a b : Rec} : befC a b < 0 ↔ ltB a b := by
 unfold befC ltB
 have h1 := cmpI_neg (a := a.t) (b := b.t); have h2 := cmpI_zero (a := a.t) (b := b.t)
 rw [← listC_neg (a := a) (b := b)]
 unfold or2
 split <;> omega
end Rep
def recN (l : List Rec) (i : Nat) : Rec := l[i]?.getD default
theorem recN_at {l : List Rec} {i : Nat} (h : i < l.length) : l[i]? = some (recN l i) := by unfold recN; rw [List.getElem?_eq_getElem h]; rfl
theorem recN_mem {l : List Rec} {i : Nat} (h : i < l.length) : recN l i ∈ l := List.mem_of_getElem? (recN_at h)
theorem recN_take {l : List Rec} {i : Nat} (h : i < l.length) : l.take (i + 1) = l.take i ++ [recN l i] := by rw [List.take_add_one, recN_at h]; rfl
theorem recN_set {l : List Rec} {i j : Nat} {x : Rec} : recN (l.set i x) j = if i = j ∧ i < l.length then x else recN l j := by
  unfold recN
  rw [List.getElem?_set]
  by_cases h : i = j
  · subst h
    by_cases hl : i < l.length
    · rw [if_pos rfl, if_pos hl, if_pos ⟨rfl, hl⟩]; rfl
    · rw [if_pos rfl, if_neg hl, if_neg (fun q => hl q.2), List.getElem?_eq_none (by omega)]
  · rw [if_neg h, if_neg (fun q => h q.1)]
def RecAt (w : World) (b o : Nat) (x : Rec) : Prop := w.cell? ⟨b, o, none⟩ = some (.int .i64 x.c) ∧ w.cell? ⟨b, o + 1, none⟩ = some (.int .i64 x.n) ∧ w.cell? ⟨b, o + 2, none⟩ = some (.int .i64 x.t) ∧ w.cell? ⟨b, o + 3, none⟩ = some (.int .i64 x.o) ∧ w.cell? ⟨b, o + 4, none⟩ = some (.int .i64 x.w) ∧ w.cell? ⟨b, o + 5, none⟩ = some (.int .i64 x.k) ∧ w.cell? ⟨b, o + 6, none⟩ = some (.string x.x)
theorem RecAt.ext {w w' : World} {b o : Nat} {x : Rec} (h : RecAt w b o x) (hE : Ext w w') : RecAt w' b o x := ⟨hE.cell h.1, hE.cell h.2.1, hE.cell h.2.2.1, hE.cell h.2.2.2.1, hE.cell h.2.2.2.2.1, hE.cell h.2.2.2.2.2.1, hE.cell h.2.2.2.2.2.2⟩
structure RecB (w : World) (b o : Nat) (l : List Rec) : Prop where
 at_ : ∀ (i : Nat) x, l[i]? = some x → RecAt w b (o + i * 7) x
theorem RecB.ext {w w' : World} {b o : Nat} {l : List Rec} (h : RecB w b o l) (hE : Ext w w') : RecB w' b o l := ⟨fun i x hx => (h.at_ i x hx).ext hE⟩
section
variable {w : World} {b o i : Nat} {l : List Rec} (h : RecB w b o l) (hi : i < l.length)
include h hi
theorem RecB.r : RecAt w b (o + i * 7) (recN l i) := h.at_ i _ (recN_at hi)
theorem RecB.c0 : w.cell? ⟨b, o + i * 7, none⟩ = some (.int .i64 (recN l i).c) := (h.r hi).1
theorem RecB.c1 : w.cell? ⟨b, o + i * 7 + 1, none⟩ = some (.int .i64 (recN l i).n) := (h.r hi).2.1
theorem RecB.c2 : w.cell? ⟨b, o + i * 7 + 2, none⟩ = some (.int .i64 (recN l i).t) := (h.r hi).2.2.1
theorem RecB.c3 : w.cell? ⟨b, o + i * 7 + 3, none⟩ = some (.int .i64 (recN l i).o) := (h.r hi).2.2.2.1
theorem RecB.c4 : w.cell? ⟨b, o + i * 7 + 4, none⟩ = some (.int .i64 (recN l i).w) := (h.r hi).2.2.2.2.1
theorem RecB.c5 : w.cell? ⟨b, o + i * 7 + 5, none⟩ = some (.int .i64 (recN l i).k) := (h.r hi).2.2.2.2.2.1
theorem RecB.c6 : w.cell? ⟨b, o + i * 7 + 6, none⟩ = some (.string (recN l i).x) := (h.r hi).2.2.2.2.2.2
end
section
variable {w : World} {b i : Nat} {l : List Rec} (h : RecB w b 0 l) (hi : i < l.length)
include h hi
theorem RecB.r0 : RecAt w b (i * 7) (recN l i) := by have := h.r hi; rwa [Nat.zero_add] at this
theorem RecB.d0 : w.cell? ⟨b, i * 7, none⟩ = some (.int .i64 (recN l i).c) := (h.r0 hi).1
theorem RecB.d1 : w.cell? ⟨b, i * 7 + 1, none⟩ = some (.int .i64 (recN l i).n) := (h.r0 hi).2.1
theorem RecB.d2 : w.cell? ⟨b, i * 7 + 2, none⟩ = some (.int .i64 (recN l i).t) := (h.r0 hi).2.2.1
theorem RecB.d3 : w.cell? ⟨b, i * 7 + 3, none⟩ = some (.int .i64 (recN l i).o) := (h.r0 hi).2.2.2.1
theorem RecB.d4 : w.cell? ⟨b, i * 7 + 4, none⟩ = some (.int .i64 (recN l i).w) := (h.r0 hi).2.2.2.2.1
theorem RecB.d5 : w.cell? ⟨b, i * 7 + 5, none⟩ = some (.int .i64 (recN l i).k) := (h.r0 hi).2.2.2.2.2.1
theorem RecB.d6 : w.cell? ⟨b, i * 7 + 6, none⟩ = some (.string (recN l i).x) := (h.r0 hi).2.2.2.2.2.2
theorem RecB.lt : b < w.heap.size := World.block_lt_of_cell? _ _ (h.d0 hi)
end
structure RecsAt (w : World) (a : Option Addr) (n : Nat) (l : List Rec) : Prop where
 len : l.length = n
 max : n ≤ 140737488355328
 pl : a = none ∨ ∃ b o, a = some ⟨b, o, none⟩
 at_ : n = 0 ∨ ∃ b o, a = some ⟨b, o, none⟩ ∧ RecB w b o l
theorem RecsAt.ext {w w' : World} {a : Option Addr} {n : Nat} {l : List Rec} (h : RecsAt w a n l) (hE : Ext w w') : RecsAt w' a n l :=
 ⟨h.len, h.max, h.pl, h.at_.imp id fun ⟨b, o, ha, hx⟩ => ⟨b, o, ha, hx.ext hE⟩⟩
theorem RecsAt.nil (w : World) : RecsAt w none 0 [] := ⟨rfl, Nat.zero_le _, .inl rfl, .inl rfl⟩
theorem RecsAt.parts {w : World} {a : Option Addr} {n : Nat} {l : List Rec} (h : RecsAt w a n l) : ∃ b o, (0 < n → a = some ⟨b, o, none⟩) ∧ (0 < n → b < w.heap.size) ∧ RecB w b o l := by
 obtain ⟨h1, _, _, h3⟩ := h
 rcases h3 with h3 | ⟨b, o, ha, hx⟩
 · exact ⟨0, 0, fun h => by omega, fun h => by omega, ⟨fun i x hi => by have := (List.getElem?_eq_some_iff.1 hi).1; omega⟩⟩
 · exact ⟨b, o, fun _ => ha, fun h => World.block_lt_of_cell? _ _ (hx.r (i := 0) (by omega)).1, hx⟩
theorem RecB.take {w : World} {b o : Nat} {l : List Rec} (h : RecB w b o l) (k : Nat) : RecB w b o (l.take k) := ⟨fun i x hi => h.at_ i x (by
 rw [List.getElem?_take] at hi
 split at hi
 · exact hi
 · cases hi)⟩
theorem RecsAt.take {w : World} {a : Option Addr} {n : Nat} {l : List Rec} (h : RecsAt w a n l) {k : Nat} (hk : k ≤ n) : RecsAt w a k (l.take k) :=
 ⟨by rw [List.length_take, h.len]; omega, by have := h.max; omega, h.pl, by
  rcases h.at_ with q | ⟨b, o, ha, hx⟩
  · exact .inl (by omega)
  · exact .inr ⟨b, o, ha, hx.take k⟩⟩
def RecW (w : World) (b o : Nat) (x : Rec) : Prop := BoxAt w b o (.int .i64 x.c) ∧ BoxAt w b (o + 1) (.int .i64 x.n) ∧ BoxAt w b (o + 2) (.int .i64 x.t) ∧ BoxAt w b (o + 3) (.int .i64 x.o) ∧ BoxAt w b (o + 4) (.int .i64 x.w) ∧ BoxAt w b (o + 5) (.int .i64 x.k) ∧ BoxAt w b (o + 6) (.string x.x)
structure RecsW (w : World) (b : Nat) (l : List Rec) : Prop where
 at_ : ∀ (i : Nat) x, l[i]? = some x → RecW w b (i * 7) x
theorem RecW.map {w w' : World} {b o : Nat} {x : Rec} (f : ∀ o v, BoxAt w b o v → BoxAt w' b o v) (h : RecW w b o x) : RecW w' b o x := ⟨f _ _ h.1, f _ _ h.2.1, f _ _ h.2.2.1, f _ _ h.2.2.2.1, f _ _ h.2.2.2.2.1, f _ _ h.2.2.2.2.2.1, f _ _ h.2.2.2.2.2.2⟩
theorem RecsW.map {w w' : World} {b : Nat} {l : List Rec} (f : ∀ o v, BoxAt w b o v → BoxAt w' b o v) (h : RecsW w b l) : RecsW w' b l := ⟨fun i x hx => (h.at_ i x hx).map f⟩
theorem RecsW.ext {w w' : World} {b : Nat} {l : List Rec} (h : RecsW w b l) (hE : Ext w w') : RecsW w' b l := h.map fun _ _ q => q.ext hE
theorem RecsW.turn {O : Nat} {w w' : World} {b : Nat} {l : List Rec} (h : RecsW w b l) (t : Turns O w w') (hO : O ≠ b) : RecsW w' b l := h.map fun _ _ q => t.box hO q
theorem RecsW.wrote {X : Nat → Prop} {w w' : World} {b : Nat} {l : List Rec} (h : RecsW w b l) (t : Wrote X w w') (hb : ¬ X b) : RecsW w' b l := h.map fun _ _ q => t.box hb q
theorem RecsW.grown {r : Option Nat} {w w' : World} {b : Nat} {l : List Rec} (h : RecsW w b l) (hg : w.grownBy w' r) (hr : r ≠ some b) : RecsW w' b l := h.map fun _ _ q => q.grownR hg hr
section
variable {w : World} {b i : Nat} {l : List Rec} (h : RecsW w b l) (hi : i < l.length)
include h hi
theorem RecsW.r : RecW w b (i * 7) (recN l i) := h.at_ i _ (recN_at hi)
theorem RecsW.w0 : BoxAt w b (i * 7) (.int .i64 (recN l i).c) := (h.r hi).1
theorem RecsW.w1 : BoxAt w b (i * 7 + 1) (.int .i64 (recN l i).n) := (h.r hi).2.1
theorem RecsW.w2 : BoxAt w b (i * 7 + 2) (.int .i64 (recN l i).t) := (h.r hi).2.2.1
theorem RecsW.w3 : BoxAt w b (i * 7 + 3) (.int .i64 (recN l i).o) := (h.r hi).2.2.2.1
theorem RecsW.w4 : BoxAt w b (i * 7 + 4) (.int .i64 (recN l i).w) := (h.r hi).2.2.2.2.1
theorem RecsW.w5 : BoxAt w b (i * 7 + 5) (.int .i64 (recN l i).k) := (h.r hi).2.2.2.2.2.1
theorem RecsW.w6 : BoxAt w b (i * 7 + 6) (.string (recN l i).x) := (h.r hi).2.2.2.2.2.2
theorem RecsW.lt : b < w.heap.size := (h.w0 hi).lt
end
theorem RecsW.recB {w : World} {b : Nat} {l : List Rec} (h : RecsW w b l) : RecB w b 0 l := ⟨fun i x hx => by
 obtain ⟨h0, h1, h2, h3, h4, h5, h6⟩ := h.at_ i x hx
 rw [Nat.zero_add]; exact ⟨h0.1, h1.1, h2.1, h3.1, h4.1, h5.1, h6.1⟩⟩
theorem RecsW.at {w : World} {b n : Nat} {l : List Rec} (h : RecsW w b l) (hl : l.length = n) (hn : n ≤ 140737488355328) : RecsAt w (some ⟨b, 0, none⟩) n l := ⟨hl, hn, .inr ⟨_, _, rfl⟩, .inr ⟨b, 0, rfl, h.recB⟩⟩
theorem RecsW.take {w : World} {b : Nat} {l : List Rec} (h : RecsW w b l) (k : Nat) : RecsW w b (l.take k) := ⟨fun i x hi => h.at_ i x (by
 rw [List.getElem?_take] at hi
 split at hi
 · exact hi
 · cases hi)⟩
theorem RecsW.set {w X : World} {b i : Nat} {l : List Rec} (h : RecsW w b l) {x : Rec} (hv : RecW X b (i * 7) x) (hk : ∀ j v, j ≠ i * 7 → j ≠ i * 7 + 1 → j ≠ i * 7 + 2 → j ≠ i * 7 + 3 → j ≠ i * 7 + 4 → j ≠ i * 7 + 5 → j ≠ i * 7 + 6 → BoxAt w b j v → BoxAt X b j v) : RecsW X b (l.set i x) := ⟨fun j y hj => by
  rw [List.getElem?_set] at hj
  by_cases e : i = j
  · subst e
    rw [if_pos rfl] at hj
    split at hj
    · cases hj; exact hv
    · cases hj
  · rw [if_neg e] at hj
    obtain ⟨h0, h1, h2, h3, h4, h5, h6⟩ := h.at_ j y hj
    have k : ∀ q v, q < 7 → BoxAt w b (j * 7 + q) v → BoxAt X b (j * 7 + q) v := fun q v hq hb => hk _ v (by omega) (by omega) (by omega) (by omega) (by omega) (by omega) (by omega) hb
    exact ⟨k 0 _ (by omega) h0, k 1 _ (by omega) h1, k 2 _ (by omega) h2, k 3 _ (by omega) h3, k 4 _ (by omega) h4, k 5 _ (by omega) h5, k 6 _ (by omega) h6⟩⟩
def recR : Rep Rec where
 rel _ c x F := c = x.enc ∧ F = []
 keep := fun h _ => h
 lt := by rintro w c x F ⟨_, rfl⟩ b hb; cases hb
theorem rec_one (x : Rec) : ∀ u ∈ x.enc, u.oneCell' = true := fun u hu => by
 simp [Rec.enc] at hu; rcases hu with rfl | rfl | rfl | rfl | rfl | rfl | rfl <;> rfl
theorem recT : ElemT Tryz.prog 23 49 (.agg #[.int .i64 0, .int .i64 0, .int .i64 0, .int .i64 0, .int .i64 0, .int .i64 0, .string ⟨#[]⟩]) 7 64 := ⟨Tryz.underlying23, by kernel_rfl, rfl, by decide⟩
theorem own_recW {n₀ e n cap g : Nat} {w : World} {l : List Rec} (h : OwnL recR n₀ e 7 (.slice (some ⟨g, 0, none⟩) n cap) w l) (hl : l.length = n) : RecsW w g l := by
 subst hl
 obtain ⟨cs, h1, h2, h3, h4⟩ := h
 refine ⟨fun i x hx => ?_⟩
 have hi := (List.getElem?_eq_some_iff.1 hx).1
 have hc := List.getElem?_eq_getElem (l := cs) (i := i) (by omega)
 obtain ⟨F, ⟨e1, _⟩, _⟩ := h4 i _ _ hx hc
 have k : ∀ q u, q < 7 → x.enc[q]? = some u → BoxAt w g (i * 7 + q) u := fun q u hq hu => by
  have f := flatten_get h2 i hc q hq
  rw [e1, hu] at f
  exact ⟨by rw [h3.cellAt _ (by omega)]; exact f, h3.frozenAt _⟩
 exact ⟨k 0 _ (by omega) rfl, k 1 _ (by omega) rfl, k 2 _ (by omega) rfl, k 3 _ (by omega) rfl, k 4 _ (by omega) rfl, k 5 _ (by omega) rfl, k 6 _ (by omega) rfl⟩
theorem own_recs {n₀ e n cap : Nat} {a : Option Addr} {w : World} {l : List Rec} (h : OwnL recR n₀ e 7 (.slice a n cap) w l) (hl : l.length = n) (hn : n ≤ 140737488355328) : RecsAt w a n l := by
  obtain ⟨cs, h1, h2, h3, h4⟩ := id h
  rcases h3.2 with ⟨q1, q2⟩ | ⟨g, cap', cur, q1, _⟩
  · injection q1 with r1 r2 r3; exact ⟨hl, hn, .inl r1, .inl r2⟩
  · injection q1 with r1 r2 r3
    subst r1
    exact ⟨hl, hn, .inr ⟨_, _, rfl⟩, .inr ⟨g, 0, rfl, (own_recW h hl).recB⟩⟩
@[reducible] def rvv (x : Rec) : Value := .agg #[.int .i64 x.c, .int .i64 x.n, .int .i64 x.t, .int .i64 x.o, .int .i64 x.w, .int .i64 x.k, .string x.x]
theorem r7 {w : World} {b o : Nat} {x : Rec} (h0 : w.cell? ⟨b, o, none⟩ = some (.int .i64 x.c)) (h1 : w.cell? ⟨b, o + 1, none⟩ = some (.int .i64 x.n)) (h2 : w.cell? ⟨b, o + 2, none⟩ = some (.int .i64 x.t)) (h3 : w.cell? ⟨b, o + 3, none⟩ = some (.int .i64 x.o)) (h4 : w.cell? ⟨b, o + 4, none⟩ = some (.int .i64 x.w)) (h5 : w.cell? ⟨b, o + 5, none⟩ = some (.int .i64 x.k)) (h6 : w.cell? ⟨b, o + 6, none⟩ = some (.string x.x)) : RecAt w b o x := ⟨h0, h1, h2, h3, h4, h5, h6⟩
theorem RecsW.ra {w : World} {b i : Nat} {l : List Rec} (h : RecsW w b l) (hi : i < l.length) : RecAt w b (i * 7) (recN l i) := ⟨(h.w0 hi).1, (h.w1 hi).1, (h.w2 hi).1, (h.w3 hi).1, (h.w4 hi).1, (h.w5 hi).1, (h.w6 hi).1⟩
theorem RecsW.rb {w : World} {b i : Nat} {l : List Rec} (h : RecsW w b l) (hi : i < l.length) : (BoxAt w b (i * 7) (.int .i64 (recN l i).c) ∧ BoxAt w b (i * 7 + 1) (.int .i64 (recN l i).n) ∧ BoxAt w b (i * 7 + 2) (.int .i64 (recN l i).t) ∧ BoxAt w b (i * 7 + 3) (.int .i64 (recN l i).o) ∧ BoxAt w b (i * 7 + 4) (.int .i64 (recN l i).w) ∧ BoxAt w b (i * 7 + 5) (.int .i64 (recN l i).k) ∧ BoxAt w b (i * 7 + 6) (.string (recN l i).x)) := ⟨h.w0 hi, h.w1 hi, h.w2 hi, h.w3 hi, h.w4 hi, h.w5 hi, h.w6 hi⟩
instance {w w' : World} {a : Option Addr} {n : Nat} {l : List Rec} : MvC w w' (RecsAt w a n l) (RecsAt w' a n l) := ⟨fun e h => h.ext e⟩
instance {w w' : World} {b o : Nat} {l : List Rec} : MvC w w' (RecB w b o l) (RecB w' b o l) := ⟨fun e h => h.ext e⟩
instance {w w' : World} {b : Nat} {l : List Rec} : MvC w w' (RecsW w b l) (RecsW w' b l) := ⟨fun e h => h.ext e⟩
end Go.Proofs.YtfmoabgjaclkpaaGreatDoor

namespace Go.Proofs.YtfmoabgjaclkpaaGreatDoor
open Go.RowKit
theorem ix23 {w : World} {b o n c k : Nat} (hk : k < n) : (Instr.indexAt 23 (.slice (some ⟨b, o, none⟩) n c) (.int .i64 k)).run Tryz.prog w = .ok (.pointer (some ⟨b, o + k * 7, none⟩)) w := by
 have : (0 : Int) ≤ (k : Int) := by omega
 have : (k : Int) < (n : Int) := by omega
 go_simp
theorem ix23z {w : World} {b n c k : Nat} (hk : k < n) : (Instr.indexAt 23 (.slice (some ⟨b, 0, none⟩) n c) (.int .i64 k)).run Tryz.prog w = .ok (.pointer (some ⟨b, k * 7, none⟩)) w := by
 have h := ix23 (w := w) (b := b) (o := 0) (c := c) hk
 rwa [Nat.zero_add] at h
theorem ix66 {w : World} {b o n c k : Nat} (hk : k < n) : (Instr.indexAt 66 (.slice (some ⟨b, o, none⟩) n c) (.int .i64 k)).run Tryz.prog w = .ok (.pointer (some ⟨b, o + k, none⟩)) w := by
 have : (0 : Int) ≤ (k : Int) := by omega
 have : (k : Int) < (n : Int) := by omega
 go_simp
theorem ix66z {w : World} {b n c k : Nat} (hk : k < n) : (Instr.indexAt 66 (.slice (some ⟨b, 0, none⟩) n c) (.int .i64 k)).run Tryz.prog w = .ok (.pointer (some ⟨b, k, none⟩)) w := by
 have h := ix66 (w := w) (b := b) (o := 0) (c := c) hk
 rwa [Nat.zero_add] at h
theorem ld23 {w : World} {b o : Nat} {x0 : Value} (h0 : w.cell? ⟨b, o, none⟩ = some x0) : (Instr.loadAt 23 (.pointer (some ⟨b, o, none⟩))).run Tryz.prog w = .ok (x0) w := by go_simp
theorem ld3 {w : World} {b o : Nat} {x0 : Value} (h0 : w.cell? ⟨b, o, none⟩ = some x0) : (Instr.loadAt 3 (.pointer (some ⟨b, o, none⟩))).run Tryz.prog w = .ok (x0) w := by go_simp
theorem ld49 {w : World} {b o : Nat} {x0 x1 x2 x3 x4 x5 x6 : Value} (h0 : w.cell? ⟨b, o, none⟩ = some x0) (h1 : w.cell? ⟨b, o + 1, none⟩ = some x1) (h2 : w.cell? ⟨b, o + 2, none⟩ = some x2) (h3 : w.cell? ⟨b, o + 3, none⟩ = some x3) (h4 : w.cell? ⟨b, o + 4, none⟩ = some x4) (h5 : w.cell? ⟨b, o + 5, none⟩ = some x5) (h6 : w.cell? ⟨b, o + 6, none⟩ = some x6) : (Instr.loadAt 49 (.pointer (some ⟨b, o, none⟩))).run Tryz.prog w = .ok (.agg #[x0, x1, x2, x3, x4, x5, x6]) w := by go_simp
theorem ld70 {w : World} {b o : Nat} {x0 x1 : Value} (h0 : w.cell? ⟨b, o, none⟩ = some x0) (h1 : w.cell? ⟨b, o + 1, none⟩ = some x1) : (Instr.loadAt 70 (.pointer (some ⟨b, o, none⟩))).run Tryz.prog w = .ok (.agg #[x0, x1]) w := by go_simp
theorem ld77 {w : World} {b o : Nat} {x0 : Value} (h0 : w.cell? ⟨b, o, none⟩ = some x0) : (Instr.loadAt 77 (.pointer (some ⟨b, o, none⟩))).run Tryz.prog w = .ok (x0) w := by go_simp
theorem ld9 {w : World} {b o : Nat} {x0 : Value} (h0 : w.cell? ⟨b, o, none⟩ = some x0) : (Instr.loadAt 9 (.pointer (some ⟨b, o, none⟩))).run Tryz.prog w = .ok (x0) w := by go_simp
theorem sl23_010a {w : World} {a : Option Addr} {n c m : Nat} (h1 : 0 ≤ m) (h2 : m ≤ c) : (Instr.sliceAt 23 (.slice a n c) none (some (.int .i64 m)) none).run Tryz.prog w = .ok (.slice a m c) w := by
 have : (0 : Int) ≤ (m : Int) := by omega
 have : (m : Int) ≤ (c : Int) := by omega
 have e : (if c = 0 then a else a.map (fun x => x.add 0)) = a := by split; rfl; cases a <;> rfl
 go_simp <;> exact e
theorem sl23_010 {w : World} {b o n c m : Nat} (h1 : 0 ≤ m) (h2 : m ≤ c) : (Instr.sliceAt 23 (.slice (some ⟨b, o, none⟩) n c) none (some (.int .i64 m)) none).run Tryz.prog w = .ok (.slice (some ⟨b, o, none⟩) m c) w := sl23_010a h1 h2
theorem sl23_100b {w : World} {a : Option Addr} {n c k : Nat} (h1 : k ≤ n) (h2 : n ≤ c) : (Instr.sliceAt 23 (.slice a n c) (some (.int .i64 k)) none none).run Tryz.prog w = .ok (.slice (if c = k then a else a.map (fun x => x.add (k * 7))) (n - k) (c - k)) w := by
 have : (0 : Int) ≤ (k : Int) := by omega
 have : (k : Int) ≤ (n : Int) := by omega
 have : (n : Int) ≤ (c : Int) := by omega
 go_simp
theorem sl23_100 {w : World} {b o n c k : Nat} (h1 : k ≤ n) (h2 : n ≤ c) (h4 : k ≠ c) : (Instr.sliceAt 23 (.slice (some ⟨b, o, none⟩) n c) (some (.int .i64 k)) none none).run Tryz.prog w = .ok (.slice (some ⟨b, o + k * 7, none⟩) (n - k) (c - k)) w := by
 have : (0 : Int) ≤ (k : Int) := by omega
 have : (k : Int) ≤ (n : Int) := by omega
 have : (n : Int) ≤ (c : Int) := by omega
 have : ¬ c = k := by omega
 go_simp
theorem sn_setK7 {ev : Operand → Value} {oi : Oper} {w : World} {N : Value → World → Prop} {O j : Nat} {u0 v0 u1 v1 u2 v2 u3 v3 u4 v4 u5 v5 u6 v6 : Value} (h1 : (execOp ev oi).run Tryz.prog w = .ok .skip (((((((w.setCell ⟨O, j, none⟩ v0).setCell ⟨O, j + 1, none⟩ v1).setCell ⟨O, j + 2, none⟩ v2).setCell ⟨O, j + 3, none⟩ v3).setCell ⟨O, j + 4, none⟩ v4).setCell ⟨O, j + 5, none⟩ v5).setCell ⟨O, j + 6, none⟩ v6)) (b0 : BoxAt w O j u0) (b1 : BoxAt w O (j + 1) u1) (b2 : BoxAt w O (j + 2) u2) (b3 : BoxAt w O (j + 3) u3) (b4 : BoxAt w O (j + 4) u4) (b5 : BoxAt w O (j + 5) u5) (b6 : BoxAt w O (j + 6) u6)
  (h : ∀ X, Turns O w X → BoxAt X O j v0 → BoxAt X O (j + 1) v1 → BoxAt X O (j + 2) v2 → BoxAt X O (j + 3) v3 → BoxAt X O (j + 4) v4 → BoxAt X O (j + 5) v5 → BoxAt X O (j + 6) v6 → (∀ i x, i ≠ j → i ≠ (j + 1) → i ≠ (j + 2) → i ≠ (j + 3) → i ≠ (j + 4) → i ≠ (j + 5) → i ≠ (j + 6) → BoxAt w O i x → BoxAt X O i x) → N undef X) : StepN Tryz.prog ev oi w N := by
 have k : ∀ (W : World) (j : Nat) (u v : Value), BoxAt W O j u → BoxAt (W.setCell ⟨O, j, none⟩ v) O j v := fun W j u v hO => ⟨by have := hO.1; simp [go_sem, this], by have := hO.2; simpa [go_sem] using this⟩
 have k2 : ∀ (W : World) (j i : Nat) (x v : Value), i ≠ j → BoxAt W O i x → BoxAt (W.setCell ⟨O, j, none⟩ v) O i x := fun W j i x v hi hx => ⟨by rw [World.cell?_setCell_other W _ _ _ (fun e => hi (congrArg Addr.off e).symm)]; exact hx.1, by simp [go_sem, hx.2]⟩
 exact sn_skp h1 (h _ (((((((turns_set _ _ _ _).trans (turns_set _ _ _ _)).trans (turns_set _ _ _ _)).trans (turns_set _ _ _ _)).trans (turns_set _ _ _ _)).trans (turns_set _ _ _ _)).trans (turns_set _ _ _ _)) (k2 _ _ _ _ _ (by omega) (k2 _ _ _ _ _ (by omega) (k2 _ _ _ _ _ (by omega) (k2 _ _ _ _ _ (by omega) (k2 _ _ _ _ _ (by omega) (k2 _ _ _ _ _ (by omega) (k _ _ _ _ b0))))))) (k2 _ _ _ _ _ (by omega) (k2 _ _ _ _ _ (by omega) (k2 _ _ _ _ _ (by omega) (k2 _ _ _ _ _ (by omega) (k2 _ _ _ _ _ (by omega) (k _ _ _ _ (k2 _ _ _ _ _ (by omega) b1))))))) (k2 _ _ _ _ _ (by omega) (k2 _ _ _ _ _ (by omega) (k2 _ _ _ _ _ (by omega) (k2 _ _ _ _ _ (by omega) (k _ _ _ _ (k2 _ _ _ _ _ (by omega) (k2 _ _ _ _ _ (by omega) b2))))))) (k2 _ _ _ _ _ (by omega) (k2 _ _ _ _ _ (by omega) (k2 _ _ _ _ _ (by omega) (k _ _ _ _ (k2 _ _ _ _ _ (by omega) (k2 _ _ _ _ _ (by omega) (k2 _ _ _ _ _ (by omega) b3))))))) (k2 _ _ _ _ _ (by omega) (k2 _ _ _ _ _ (by omega) (k _ _ _ _ (k2 _ _ _ _ _ (by omega) (k2 _ _ _ _ _ (by omega) (k2 _ _ _ _ _ (by omega) (k2 _ _ _ _ _ (by omega) b4))))))) (k2 _ _ _ _ _ (by omega) (k _ _ _ _ (k2 _ _ _ _ _ (by omega) (k2 _ _ _ _ _ (by omega) (k2 _ _ _ _ _ (by omega) (k2 _ _ _ _ _ (by omega) (k2 _ _ _ _ _ (by omega) b5))))))) (k _ _ _ _ (k2 _ _ _ _ _ (by omega) (k2 _ _ _ _ _ (by omega) (k2 _ _ _ _ _ (by omega) (k2 _ _ _ _ _ (by omega) (k2 _ _ _ _ _ (by omega) (k2 _ _ _ _ _ (by omega) b6))))))) fun i x h0 h1 h2 h3 h4 h5 h6 hx => (k2 _ _ _ _ _ h6 (k2 _ _ _ _ _ h5 (k2 _ _ _ _ _ h4 (k2 _ _ _ _ _ h3 (k2 _ _ _ _ _ h2 (k2 _ _ _ _ _ h1 (k2 _ _ _ _ _ h0 hx))))))))
theorem st49 {w : World} {b o : Nat} {u0 u1 u2 u3 u4 u5 u6 : Value} {x0 : Int} {x1 : Int} {x2 : Int} {x3 : Int} {x4 : Int} {x5 : Int} {x6 : ByteArray} (h0 : w.cell? ⟨b, o, none⟩ = some u0) (f0 : w.frozen? ⟨b, o, none⟩ = false) (h1 : w.cell? ⟨b, o + 1, none⟩ = some u1) (f1 : w.frozen? ⟨b, o + 1, none⟩ = false) (h2 : w.cell? ⟨b, o + 2, none⟩ = some u2) (f2 : w.frozen? ⟨b, o + 2, none⟩ = false) (h3 : w.cell? ⟨b, o + 3, none⟩ = some u3) (f3 : w.frozen? ⟨b, o + 3, none⟩ = false) (h4 : w.cell? ⟨b, o + 4, none⟩ = some u4) (f4 : w.frozen? ⟨b, o + 4, none⟩ = false) (h5 : w.cell? ⟨b, o + 5, none⟩ = some u5) (f5 : w.frozen? ⟨b, o + 5, none⟩ = false) (h6 : w.cell? ⟨b, o + 6, none⟩ = some u6) (f6 : w.frozen? ⟨b, o + 6, none⟩ = false) : (Instr.storeAt 49 (.pointer (some ⟨b, o, none⟩)) (.agg #[(.int .i64 x0), (.int .i64 x1), (.int .i64 x2), (.int .i64 x3), (.int .i64 x4), (.int .i64 x5), (.string x6)])).run Tryz.prog w = .ok () (((((((w.setCell ⟨b, o, none⟩ (.int .i64 x0)).setCell ⟨b, o + 1, none⟩ (.int .i64 x1)).setCell ⟨b, o + 2, none⟩ (.int .i64 x2)).setCell ⟨b, o + 3, none⟩ (.int .i64 x3)).setCell ⟨b, o + 4, none⟩ (.int .i64 x4)).setCell ⟨b, o + 5, none⟩ (.int .i64 x5)).setCell ⟨b, o + 6, none⟩ (.string x6)) := by go_simp
theorem st70 {w : World} {b o : Nat} {u0 u1 : Value} {x0 : Int} {x1 : Int} (h0 : w.cell? ⟨b, o, none⟩ = some u0) (f0 : w.frozen? ⟨b, o, none⟩ = false) (h1 : w.cell? ⟨b, o + 1, none⟩ = some u1) (f1 : w.frozen? ⟨b, o + 1, none⟩ = false) : (Instr.storeAt 70 (.pointer (some ⟨b, o, none⟩)) (.agg #[(.int .i64 x0), (.int .i64 x1)])).run Tryz.prog w = .ok () ((w.setCell ⟨b, o, none⟩ (.int .i64 x0)).setCell ⟨b, o + 1, none⟩ (.int .i64 x1)) := by go_simp
theorem st77 {w : World} {b o : Nat} {u0 : Value} {q0 : Fn} {x0 y0 : Array Value} (h0 : w.cell? ⟨b, o, none⟩ = some u0) (f0 : w.frozen? ⟨b, o, none⟩ = false) : (Instr.storeAt 77 (.pointer (some ⟨b, o, none⟩)) ((.func q0 x0 y0))).run Tryz.prog w = .ok () (w.setCell ⟨b, o, none⟩ (.func q0 x0 y0)) := by go_simp
end Go.Proofs.YtfmoabgjaclkpaaGreatDoor

namespace Go.Proofs.YtfmoabgjaclkpaaGreatDoor
open Go.RowKit
theorem rl {w : World} {b o : Nat} {x : Rec} (h : RecAt w b o x) : (Instr.loadAt 49 (.pointer (some ⟨b, o, none⟩))).run Tryz.prog w = .ok (rvv x) w := ld49 h.1 h.2.1 h.2.2.1 h.2.2.2.1 h.2.2.2.2.1 h.2.2.2.2.2.1 h.2.2.2.2.2.2
theorem ex_binV {P : Program} {ev : Operand → Value} {o : Oper} {w : World} {op : BinOp} {t t2 : TypeId} {x y : Operand} {a b v : Value} (hop : o.op = .binOp op t x y t2) (hx : ev x = a) (hy : ev y = b) (hg : (eqGuard op t x y a b).run P w = .ok () w)
  (h : (binOp op t a b).run P w = .ok v w) : (execOp ev o).run P w = .ok (.value v) w := by
 simp [execOp, hop, hx, hy, hg, h, Result.andThen]
theorem eqG_agg {P : Program} {w : World} {op : BinOp} {t : TypeId} {x y : Operand} {xs ys : Array Value} (h : P.eqGuardType P.depth t = false) : (eqGuard op t x y (.agg xs) (.agg ys)).run P w = .ok () w := by
 cases op <;> simp [eqGuard, h]
theorem eqG_str {P : Program} {w : World} {op : BinOp} {t : TypeId} {x y : Operand} {a b : ByteArray} : (eqGuard op t x y (.string a) (.string b)).run P w = .ok () w := by
 cases op <;> simp [eqGuard]
theorem bytes_inj {a b : ByteArray} (h : a.toList = b.toList) : a = b := by
 rw [ByteArray.toList_eq, ByteArray.toList_eq] at h
 obtain ⟨⟨x⟩⟩ := a
 obtain ⟨⟨y⟩⟩ := b
 simp only at h
 rw [h]
theorem key_eq (w : World) (a b c d : Int) : (Op.equal 70 (.agg #[.int .i64 a, .int .i64 b]) (.agg #[.int .i64 c, .int .i64 d])).run Tryz.prog w = .ok (decide (a = c ∧ b = d)) w := by
  unfold Op.equal Op.maxDepth
  by_cases h1 : a = c
  · by_cases h2 : b = d
    · subst h1; subst h2
      go_simp
    · go_simp
  · go_simp
theorem rec_eq (w : World) (x y : Rec) : (Op.equal 49 x.val y.val).run Tryz.prog w = .ok (decide (x = y)) w := by
  obtain ⟨a1, a2, a3, a4, a5, a6, a7⟩ := x
  obtain ⟨b1, b2, b3, b4, b5, b6, b7⟩ := y
  have e : decide ((⟨a1, a2, a3, a4, a5, a6, a7⟩ : Rec) = ⟨b1, b2, b3, b4, b5, b6, b7⟩) = decide (a1 = b1 ∧ a2 = b2 ∧ a3 = b3 ∧ a4 = b4 ∧ a5 = b5 ∧ a6 = b6 ∧ a7 = b7) := decide_eq_decide.2 (by rw [Rec.mk.injEq])
  rw [e]
  unfold Rec.val Op.equal Op.maxDepth
  simp only []
  by_cases h1 : a1 = b1
  · subst h1
    by_cases h2 : a2 = b2
    · subst h2
      by_cases h3 : a3 = b3
      · subst h3
        by_cases h4 : a4 = b4
        · subst h4
          by_cases h5 : a5 = b5
          · subst h5
            by_cases h6 : a6 = b6
            · subst h6
              by_cases h7 : a7 = b7
              · subst h7
                go_simp
              · have e8 : ¬ a7.toList = b7.toList := fun q => h7 (bytes_inj q)
                go_simp
            · go_simp
          · go_simp
        · go_simp
      · go_simp
    · go_simp
  · go_simp
section
variable {P : Program} {w : World} {t : TypeId}
theorem bin_eqv_t {xs ys : Array Value} {p : Prop} [Decidable p] (h : (Op.equal t (.agg xs) (.agg ys)).run P w = .ok (decide p) w) (hp : p) : (binOp .eql t (.agg xs) (.agg ys)).run P w = .ok (.bool true) w := by
 rw [decide_eq_true hp] at h
 simp [binOp, h]
theorem bin_eqv_f {xs ys : Array Value} {p : Prop} [Decidable p] (h : (Op.equal t (.agg xs) (.agg ys)).run P w = .ok (decide p) w) (hp : ¬ p) : (binOp .eql t (.agg xs) (.agg ys)).run P w = .ok (.bool false) w := by
 rw [decide_eq_false hp] at h
 simp [binOp, h]
theorem bin_nqv_t {xs ys : Array Value} {p : Prop} [Decidable p] (h : (Op.equal t (.agg xs) (.agg ys)).run P w = .ok (decide p) w) (hp : p) : (binOp .neq t (.agg xs) (.agg ys)).run P w = .ok (.bool false) w := by
 rw [decide_eq_true hp] at h
 simp [binOp, h]
theorem bin_nqv_f {xs ys : Array Value} {p : Prop} [Decidable p] (h : (Op.equal t (.agg xs) (.agg ys)).run P w = .ok (decide p) w) (hp : ¬ p) : (binOp .neq t (.agg xs) (.agg ys)).run P w = .ok (.bool true) w := by
 rw [decide_eq_false hp] at h
 simp [binOp, h]
theorem bin_nqs_t {a b : ByteArray} (h : a = b) : (binOp .neq t (.string a) (.string b)).run P w = .ok (.bool false) w := by
 subst h; simp [binOp, Op.stringOp]
theorem bin_nqs_f {a b : ByteArray} (h : ¬ a = b) : (binOp .neq t (.string a) (.string b)).run P w = .ok (.bool true) w := by
 have e : ¬ a.toList = b.toList := fun q => h (bytes_inj q)
 simp [binOp, Op.stringOp, e]
theorem bin_cat {a b : ByteArray} (h : a.size + b.size ≤ 9223372036854775807) : (binOp .add t (.string a) (.string b)).run P w = .ok (.string (a ++ b)) w := by
 have e : ¬ ((a.size + b.size : Nat) : Int) > IntKind.i64.max := by
  have : IntKind.i64.max = 9223372036854775807 := by decide
  omega
 simp only [binOp, Op.stringOp, if_neg e]
 simp
end
end Go.Proofs.YtfmoabgjaclkpaaGreatDoor
