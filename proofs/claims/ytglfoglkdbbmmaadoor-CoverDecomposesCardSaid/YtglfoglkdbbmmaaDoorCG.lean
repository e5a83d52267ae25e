/- Contracts of package cover: the lists of indices, one after the other. -/
import Derived.Test.YtglfoglkdbbmmaaDoorFM
import Derived.Test.YtglfoglkdbbmmaaDoorMD
import Derived.Test.YtglfoglkdbbmmaaDoorWG
import Derived.Test.YtglfoglkdbbmmaaDoorWA
import Derived.ArgAppend
namespace Go.Proofs.YtglfoglkdbbmmaaDoor
open Go.RowKit Go.Shelf

attribute [local go_sem] Oper.semAt_some

/-- Whatever holds cells lies as it lay, but for the blocks of X. -/
structure KeepC (X : Nat → Prop) (A B : World) : Prop where
  size : A.heap.size ≤ B.heap.size
  block : ∀ (k : Nat) (o : Obj), A.heap[k]? = some o → o.isCells = true → ¬ X k → B.heap[k]? = some o
theorem KeepC.refl (X : Nat → Prop) (A : World) : KeepC X A A := ⟨Nat.le_refl _, fun _ _ h _ _ => h⟩
theorem KeepC.trans {X : Nat → Prop} {A B C : World} (h : KeepC X A B) (k : KeepC X B C) : KeepC X A C := ⟨Nat.le_trans h.size k.size, fun i o hi hc hx => k.block i o (h.block i o hi hc hx) hc hx⟩
theorem KeepC.of_ext {X : Nat → Prop} {A B : World} (h : Ext A B) : KeepC X A B := ⟨h.size, fun k _ hk _ _ => (Below.block h k (Array.getElem?_eq_some_iff.1 hk).1).trans hk⟩
theorem KeepC.setCell {X : Nat → Prop} (A : World) {p : Addr} (hp : X p.block) (u : Value) : KeepC X A (A.setCell p u) :=
  ⟨by simp [World.setCell], fun k o hk _ hx => (Below.heap_setCell _ _ _ k (fun e => hx (by first | (rw [e]; exact hp) | (rw [← e]; exact hp)))).trans hk⟩
theorem KeepC.putObj {X : Nat → Prop} (W : World) {l : Nat} {o : Obj} (o' : Obj) (h : W.heap[l]? = some o) (hc : o.isCells = false) : KeepC X W (W.putObj l o') :=
  ⟨by simp [World.putObj], fun k o2 hk h2 _ => (World.putObj_heap_other (fun e => by subst e; rw [h] at hk; cases hk; rw [hc] at h2; cases h2)).trans hk⟩
theorem cells_of_cell {W : World} {a : Addr} {v : Value} (h : W.cell? a = some v) : ∃ o, W.heap[a.block]? = some o ∧ o.isCells = true := by
  unfold World.cell? at h
  cases ho : W.heap[a.block]? with
  | none => simp [ho] at h
  | some o => exact ⟨o, rfl, by cases o <;> simp_all [Obj.isCells]⟩
theorem KeepC.cell {X : Nat → Prop} {A B : World} (h : KeepC X A B) {a : Addr} {v : Value} (hc : A.cell? a = some v) (hx : ¬ X a.block) : B.cell? a = some v := by
  obtain ⟨o, ho, hi⟩ := cells_of_cell hc
  rw [World.cell?_of_block (w := A) ((h.block _ o ho hi hx).trans ho.symm)]; exact hc
theorem KeepC.free {X : Nat → Prop} {A B : World} (h : KeepC X A B) {a : Addr} {v : Value} (hc : A.cell? a = some v) (hx : ¬ X a.block) (hf : A.frozen? a = false) : B.frozen? a = false := by
  obtain ⟨o, ho, hi⟩ := cells_of_cell hc
  exact (World.frozen?_of_block ((h.block _ o ho hi hx).trans ho.symm)).trans hf

/-- A list of indices as ints. -/
def intsN (l : List Nat) : List Int := l.map fun (i : Nat) => (i : Int)
theorem intsN_len (l : List Nat) : (intsN l).length = l.length := by simp [intsN]
theorem intsN_snoc (l : List Nat) (i : Nat) : intsN (l ++ [i]) = intsN l ++ [(i : Int)] := by simp [intsN]

/-- The slice of a list that is not empty lies at some address; that of the empty list is nil. -/
def ListAt (W : World) (a : Option Addr) (c : Nat) (l : List Nat) : Prop := (l = [] ∧ a = none ∧ c = 0) ∨ (l ≠ [] ∧ l.length ≤ c ∧ ∃ b off, a = some ⟨b, off, none⟩ ∧ ∀ i, i < l.length → W.cell? ⟨b, off + i, none⟩ = some (.int .i64 (Globe.nth (intsN l) i)))
theorem ListAt.ints {W : World} {a : Option Addr} {c : Nat} {l : List Nat} (h : ListAt W a c l) : IntsAt W a (intsN l) := by
  rcases h with ⟨rfl, _⟩ | ⟨_, _, b, off, rfl, h⟩
  · exact .inl (by rfl)
  · exact .inr ⟨b, off, rfl, fun i hi => h i (by rwa [intsN_len] at hi)⟩
theorem ListAt.ext {W W' : World} {a : Option Addr} {c : Nat} {l : List Nat} (h : ListAt W a c l) (hE : Ext W W') : ListAt W' a c l :=
  h.imp id fun ⟨h1, h2, b, off, ha, hc⟩ => ⟨h1, h2, b, off, ha, fun i hi => hE.cell (hc i hi)⟩
theorem ListAt.keep {X : Nat → Prop} {W W' : World} {a : Option Addr} {c : Nat} {l : List Nat} (h : ListAt W a c l) (hk : KeepC X W W') (hx : ∀ b off, a = some ⟨b, off, none⟩ → ¬ X b) : ListAt W' a c l :=
  h.imp id fun ⟨h1, h2, b, off, ha, hc⟩ => ⟨h1, h2, b, off, ha, fun i hi => hk.cell (hc i hi) (hx b off ha)⟩
theorem list_of_own {w : World} {base : Nat} {v : Value} {l : List Nat} (h : w.ownsRow base 3 1 v l.length (intVals (intsN l))) (hl : l ≠ []) : ∃ g k, v = .slice (some ⟨g, 0, none⟩) l.length k ∧ base ≤ g ∧ l.length ≤ k ∧ ListAt w (some ⟨g, 0, none⟩) k l := by
  have hpos : 0 < l.length := List.length_pos_iff.2 hl
  rcases h.2 with ⟨_, h0⟩ | ⟨g, cap, cur, rfl, hb, _, hcap, _⟩
  · omega
  · refine ⟨g, cap, rfl, hb, hcap, .inr ⟨hl, hcap, g, 0, rfl, fun i hi => ?_⟩⟩
    rw [Nat.zero_add, h.cellAt i (by omega)]
    simp [intVals, Globe.nth, intsN, hi]

set_option maxHeartbeats 1000000 in
/-- slices.Clone, at a list of indices. -/
theorem CloneN_c (a : Option Addr) (c : Nat) (l : List Nat) (w : World) (h : ListAt w a c l) (hl : l.length ≤ 1000) :
    Calls Tryd.prog 66 #[.slice a l.length c] w fun e w' => ∃ a' k, e = .returned (.slice a' l.length k) ∧ ListAt w' a' k l ∧ (∀ b off, a' = some ⟨b, off, none⟩ → off = 0) ∧ Ext w w' := by
  rcases h with ⟨rfl, rfl, rfl⟩ | ⟨hne, hcl, b, o, rfl, hx0⟩
  · have hn : ∀ w, (binOp .eql 23 (.slice none 0 0) (.slice none 0 0)).run Tryd.prog w = .ok (.bool true) w := fun _ => by kernel_rfl
    rw [List.length_nil]
    clear hl
    go_enter Tryd.func66, Tryd.ntmps66
    go_wp2_with fail
    go_ret
    exact ⟨none, 0, rfl, .inl ⟨rfl, rfl, rfl⟩, fun b off e => (by cases e), Ext.refl _⟩
  · obtain ⟨i0, hi, hz0, hz1, hz2⟩ := info_parts (P := Tryd.prog) (e := 3) (z := .int .i64 0) (size := 1) (bytes := 8) (by kernel_rfl)
    have hn : ∀ w, (binOp .eql 23 (.slice (some ⟨b, o, none⟩) l.length c) (.slice none 0 0)).run Tryd.prog w = .ok (.bool false) w := fun _ => by kernel_rfl
    have hx : ∀ j u, (intVals (intsN l))[j]? = some u → w.cell? ((⟨b, o, none⟩ : Addr).add j) = some u := fun j u hj => by
      have hjl : j < (intsN l).length := by rw [← List.length_map (f := Value.int .i64)]; exact (List.getElem?_eq_some_iff.1 hj).1
      have e := intVals_at hjl
      rw [List.getElem?_toArray, hj] at e
      cases e
      rw [Addr.add_mid]; exact hx0 j (by rwa [intsN_len] at hjl)
    have Hx := Lib.hid hx; clear hx hx0
    go_enter Tryd.func66, Tryd.ntmps66
    go_wp2_with (at_builtin; refine wpList_append_own _ rfl _ _ 23 rfl w.heap.size 3 i0 (.int .i64 0) 1 8 Tryd.underlying23 hi hz0 hz1 hz2 rfl (by decide) _ 0 [] rfl (World.ownsRow_made w #[] 0 (Nat.le_refl _) (by unfold maxLen; omega) rfl) ⟨b, o, none⟩ l.length c (intVals (intsN l)) rfl (by simp [intVals, intsN]) (fun j u hj => Ext.cell (by (repeat' (first | (with_reducible assumption) | (with_reducible exact Ext.refl _) | (with_reducible refine Ext.alloc ?_ _) | (with_reducible refine Ext.drew ?_) | (with_reducible refine Ext.drewN ?_ _) | (with_reducible refine Ext.setCell ?_ ?_ _) | (with_reducible refine Ext.trans ?_ (by assumption)) | go_size))) (Hx.out j u hj)) (by simp [intVals, Value.oneCell']) (by unfold maxLen; omega) (by omega) (by simp) ?_; intro v' w3 hown' hg3 hnil3; go_frame)
    have hE : Ext w w3 := ((Below.refl _ w).alloc (Nat.le_refl _) _).grown hg3 (by simp) (fun j e => by simp [Act.eval, Value.ownBlock] at e; omega)
    obtain ⟨g, k, rfl, hg, -, hr⟩ := list_of_own (by simpa using hown') hne
    go_ret
    exact ⟨_, k, rfl, hr, fun b off e => (by cases e; rfl), hE⟩

end Go.Proofs.YtglfoglkdbbmmaaDoor
