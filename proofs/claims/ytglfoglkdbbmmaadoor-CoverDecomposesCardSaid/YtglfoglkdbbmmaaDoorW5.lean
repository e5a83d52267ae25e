/- What a function that makes an area returns. -/
import Derived.Test.YtglfoglkdbbmmaaDoorW4
import Derived.Test.YtglfoglkdbbmmaaDoorMB
namespace Go.Proofs.YtglfoglkdbbmmaaDoor
open Go.RowKit

/-- A fresh area that reads as L (and may be written), alone, or with no error. -/
def RetA (w : World) (L : List Int) (e : Ending) (w' : World) : Prop :=
  ∃ B : Nat, e = .returned (.agg #[.slice (some ⟨B, 0, none⟩) 24 24]) ∧ w.heap.size ≤ B ∧ RowsAt w' B L ∧ Ext w w'
def RetAE (w : World) (L : List Int) (e : Ending) (w' : World) : Prop :=
  ∃ B : Nat, e = .returned (.tuple #[.agg #[.slice (some ⟨B, 0, none⟩) 24 24], .int .i64 0]) ∧ w.heap.size ≤ B ∧ RowsAt w' B L ∧ Ext w w'
/-- No area, and an error. -/
def RetErr (w : World) (c : Int) (e : Ending) (w' : World) : Prop := e = .returned (.tuple #[.agg #[.slice none 0 0], .int .i64 c]) ∧ Ext w w'
/-- Either. -/
def orL (ok : Bool) (L : List Int) : List Int := if ok then L else []
def orE (ok : Bool) (c : Int) : Int := if ok then 0 else c
def RetAny (w : World) (ok : Bool) (L : List Int) (c : Int) (e : Ending) (w' : World) : Prop :=
  ∃ (a : Option Addr) (k : Nat), e = .returned (.tuple #[.agg #[.slice a (orL ok L).length k], .int .i64 (orE ok c)]) ∧ IntsAt w' a (orL ok L) ∧ Ext w w' ∧ ∀ ad, a = some ad → w.heap.size ≤ ad.block ∧ ad.block < w'.heap.size
theorem RetAny.yes {w : World} {L : List Int} {c : Int} {e : Ending} {w' : World} (h : RetAE w L e w') : RetAny w true L c e w' := by
  obtain ⟨B, rfl, hB, hr, hE⟩ := h
  exact ⟨some ⟨B, 0, none⟩, 24, by show _ = Ending.returned (.tuple #[.agg #[.slice _ L.length _], _]); rw [hr.len]; rfl, .inr ⟨B, 0, rfl, hr.ints⟩, hE, fun ad e => by cases e; exact ⟨hB, hr.lt⟩⟩
theorem RetAny.no {w : World} {L : List Int} {c : Int} {e : Ending} {w' : World} (h : RetErr w c e w') : RetAny w false L c e w' := by
  obtain ⟨rfl, hE⟩ := h
  exact ⟨none, 0, rfl, .inl rfl, hE, fun ad e => by cases e⟩
theorem orL_len {ok : Bool} {L : List Int} (h : L.length ≤ 140737488355328) : (orL ok L).length ≤ 140737488355328 := by
  unfold orL; split
  · exact h
  · simp

theorem RowsAt.any {w : World} {B : Nat} {L : List Int} (h : RowsAt w B L) : IntsAt w (some ⟨B, 0, none⟩) L := .inr ⟨B, 0, rfl, h.ints⟩
/-- The rows of a valid area that came from anywhere. -/
theorem IntsAt.rows {w : World} {a : Option Addr} {l : List Int} (h : IntsAt w a l) (hl : l.length = 24) : ∃ b off, a = some ⟨b, off, none⟩ ∧ ∀ i, i < 24 → w.cell? ⟨b, off + i, none⟩ = some (.int .i64 (Globe.nth l i)) := by
  rcases h with rfl | ⟨b, off, rfl, h⟩
  · simp at hl
  · exact ⟨b, off, rfl, fun i hi => h i (by omega)⟩
theorem IntsAt.lt {w : World} {b off : Nat} {l : List Int} (h : ∀ i, i < 24 → w.cell? ⟨b, off + i, none⟩ = some (.int .i64 (Globe.nth l i))) : b < w.heap.size := World.block_lt_of_cell? w _ (h 0 (by omega))

theorem RowsAt.keep {w w' : World} {B : Nat} {L : List Int} (h : RowsAt w B L) (hc : ∀ o, w'.cell? ⟨B, o, none⟩ = w.cell? ⟨B, o, none⟩) (hf : ∀ o, w'.frozen? ⟨B, o, none⟩ = w.frozen? ⟨B, o, none⟩) : RowsAt w' B L :=
  ⟨h.1, fun i hi => by rw [hc]; exact h.cell hi, fun i hi => by rw [hf]; exact h.free hi⟩
theorem RowsAt.other {w : World} {B : Nat} {L : List Int} (h : RowsAt w B L) {p : Addr} (hp : p.block ≠ B) (v : Value) : RowsAt (w.setCell p v) B L :=
  h.keep (fun o => World.cell?_setCell_other w _ _ _ (fun e => hp (by rw [e]))) (fun o => by simp [go_sem])

/-- A box of the call's own: what it holds, and that it may be written. -/
def BoxAt (w : World) (b o : Nat) (v : Value) : Prop := w.cell? ⟨b, o, none⟩ = some v ∧ w.frozen? ⟨b, o, none⟩ = false
theorem BoxAt.ext {w w' : World} {b o : Nat} {v : Value} (hE : Ext w w') (h : BoxAt w b o v) : BoxAt w' b o v := ⟨hE.cell h.1, hE.free h.1 h.2⟩
theorem BoxAt.lt {w : World} {b o : Nat} {v : Value} (h : BoxAt w b o v) : b < w.heap.size := World.block_lt_of_cell? w _ h.1
theorem BoxAt.other {w : World} {b o : Nat} {v : Value} (h : BoxAt w b o v) {p : Addr} (hp : p.block ≠ b) (u : Value) : BoxAt (w.setCell p u) b o v :=
  ⟨by rw [World.cell?_setCell_other w _ _ _ (fun e => hp (by rw [e]))]; exact h.1, by simp [go_sem, h.2]⟩
theorem BoxAt.drew {w : World} {b o : Nat} {v : Value} (h : BoxAt w b o v) : BoxAt w.drew b o v := ⟨h.1, h.2⟩
theorem BoxAt.drewN {w : World} {b o : Nat} {v : Value} (h : BoxAt w b o v) (n : Nat) : BoxAt (w.drewN n) b o v := ⟨h.1, h.2⟩
theorem RowsAt.drewN {w : World} {B : Nat} {L : List Int} (h : RowsAt w B L) (n : Nat) : RowsAt (w.drewN n) B L := ⟨h.1, fun _ hi => h.cell hi, fun _ hi => h.free hi⟩
theorem RowsAt.drew {w : World} {B : Nat} {L : List Int} (h : RowsAt w B L) : RowsAt w.drew B L := ⟨h.1, fun _ hi => h.cell hi, fun _ hi => h.free hi⟩

/-- What a caller knows of an area in memory: any rows, or a valid area. -/
def AA (w : World) (a : Option Addr) (l : List Int) (n : Nat) (v : Bool) : Prop := IntsAt w a l ∧ l.length = n ∧ n ≤ 140737488355328 ∧ Globe.validL l = v
def VA (w : World) (b o : Nat) (l : List Int) : Prop := (∀ i, i < 24 → w.cell? ⟨b, o + i, none⟩ = some (.int .i64 (Globe.nth l i))) ∧ Globe.validL l = true
theorem AA.ext {w w' : World} {a : Option Addr} {l : List Int} {n : Nat} {v : Bool} (h : AA w a l n v) (hE : Ext w w') : AA w' a l n v := ⟨h.1.ext hE, h.2⟩
theorem VA.ext {w w' : World} {b o : Nat} {l : List Int} (h : VA w b o l) (hE : Ext w w') : VA w' b o l := ⟨fun i hi => hE.cell (h.1 i hi), h.2⟩
theorem VA.lt {w : World} {b o : Nat} {l : List Int} (h : VA w b o l) : b < w.heap.size := IntsAt.lt h.1
theorem VA.len {w : World} {b o : Nat} {l : List Int} (h : VA w b o l) : l.length = 24 := Globe.len_of_valid h.2
theorem VA.cell {w : World} {b o : Nat} {l : List Int} (h : VA w b o l) {y : Nat} (hy : y < 24) : w.cell? ⟨b, o + y, none⟩ = some (.int .i64 (Globe.rowN l y : Nat)) := by rw [← Globe.rowN_cast h.2]; exact h.1 y hy
theorem VA.aa {w : World} {b o : Nat} {l : List Int} (h : VA w b o l) : AA w (some ⟨b, o, none⟩) l 24 true :=
  ⟨.inr ⟨b, o, rfl, fun i hi => h.1 i (by rw [← h.len]; exact hi)⟩, h.len, by omega, h.2⟩
theorem AA.va {w : World} {a : Option Addr} {l : List Int} {n : Nat} (h : AA w a l n true) : ∃ b o, a = some ⟨b, o, none⟩ ∧ n = 24 ∧ VA w b o l := by
  have hl := Globe.len_of_valid h.2.2.2
  obtain ⟨b, o, rfl, hr⟩ := h.1.rows hl
  exact ⟨b, o, rfl, by rw [← h.2.1]; exact hl, hr, h.2.2.2⟩
theorem RowsAt.va {w : World} {B : Nat} {L : List Int} (h : RowsAt w B L) (hv : Globe.validL L = true) : VA w B 0 L := ⟨fun i hi => by rw [Nat.zero_add]; exact h.cell hi, hv⟩
/-- A fresh valid area, and no error. -/
def RetV (w : World) (L : List Int) (e : Ending) (w' : World) : Prop :=
  ∃ B k : Nat, e = .returned (.tuple #[.agg #[.slice (some ⟨B, 0, none⟩) 24 k], .int .i64 0]) ∧ w.heap.size ≤ B ∧ RowsAt w' B L ∧ VA w' B 0 L ∧ Ext w w'
theorem RetAE.v {w : World} {L : List Int} {e : Ending} {w' : World} (h : RetAE w L e w') (hv : Globe.validL L = true) : RetV w L e w' := by
  obtain ⟨B, rfl, hB, hr, hE⟩ := h
  exact ⟨B, 24, rfl, hB, hr, hr.va hv, hE⟩
theorem RetV.any {w : World} {L : List Int} {c : Int} {e : Ending} {w' : World} (h : RetV w L e w') : RetAny w true L c e w' := by
  obtain ⟨B, k, rfl, hB, hr, hv, hE⟩ := h
  exact ⟨some ⟨B, 0, none⟩, k, by show _ = Ending.returned (.tuple #[.agg #[.slice _ L.length _], _]); rw [hr.len]; rfl, .inr ⟨B, 0, rfl, hr.ints⟩, hE, fun ad e => by cases e; exact ⟨hB, hr.lt⟩⟩

end Go.Proofs.YtglfoglkdbbmmaaDoor
