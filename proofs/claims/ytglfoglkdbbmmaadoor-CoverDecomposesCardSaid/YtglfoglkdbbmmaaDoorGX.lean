/- Contract of slices.Clone, at 24 ints. -/
import Derived.Test.YtglfoglkdbbmmaaDoorW5
import Derived.Test.YtglfoglkdbbmmaaDoorWA
import Derived.OwnWalk
namespace Go.Proofs.YtglfoglkdbbmmaaDoor
open Go.RowKit

/-- What a slice of its own, of 24 ints, owns: rows. -/
theorem rows_of_own {w : World} {base : Nat} {v : Value} {L : List Int} (hL : L.length = 24) (h : w.ownsRow base 3 1 v 24 (intVals L)) : ∃ g k, v = .slice (some ⟨g, 0, none⟩) 24 k ∧ base ≤ g ∧ RowsAt w g L := by
  rcases h.2 with ⟨_, h0⟩ | ⟨g, cap, cur, rfl, hb, _, _⟩
  · omega
  · refine ⟨g, cap, rfl, hb, hL, fun i hi => ?_, fun i hi => h.frozenAt i⟩
    rw [h.cellAt i (by omega)]
    simp [intVals, Globe.nth, show i < L.length by omega]

set_option maxHeartbeats 1000000 in
theorem Clone_v {w0 : World} {b o : Nat} (c : Nat) {l : List Int} (w : World) (h : VA w0 b o l) (hE : Ext w0 w) :
    Calls Tryd.prog 66 #[.slice (some ⟨b, o, none⟩) 24 c] w fun e w' => ∃ B k, e = .returned (.slice (some ⟨B, 0, none⟩) 24 k) ∧ w.heap.size ≤ B ∧ RowsAt w' B l ∧ Ext w w' := by
  replace h := h.ext hE
  clear hE
  obtain ⟨i0, hi, hz0, hz1, hz2⟩ := info_parts (P := Tryd.prog) (e := 3) (z := .int .i64 0) (size := 1) (bytes := 8) (by kernel_rfl)
  have hn : ∀ w, (binOp .eql 23 (.slice (some ⟨b, o, none⟩) 24 c) (.slice none 0 0)).run Tryd.prog w = .ok (.bool false) w := fun _ => by kernel_rfl
  have hx : ∀ j u, (intVals l)[j]? = some u → w.cell? ((⟨b, o, none⟩ : Addr).add j) = some u := fun j u hj => by
    have hl : j < l.length := by rw [← List.length_map (f := Value.int .i64)]; exact (List.getElem?_eq_some_iff.1 hj).1
    have e := intVals_at hl
    rw [List.getElem?_toArray, hj] at e
    cases e
    rw [Addr.add_mid]; exact h.1 j (by rw [← h.len]; exact hl)
  have Hx := Lib.hid hx; clear hx
  have hl24 := h.len
  have Hl := Lib.hid hl24; clear hl24
  go_enter Tryd.func66, Tryd.ntmps66
  go_wp2_with (at_builtin; refine wpList_append_own _ rfl _ _ 23 rfl w.heap.size 3 i0 (.int .i64 0) 1 8 Tryd.underlying23 hi hz0 hz1 hz2 rfl (by decide) _ 0 [] rfl (World.ownsRow_made w #[] 0 (Nat.le_refl _) (by unfold maxLen; omega) rfl) ⟨b, o, none⟩ 24 c (intVals l) rfl (by simp [intVals, Hl.out]) (fun j u hj => Ext.cell (by (repeat' (first | (with_reducible assumption) | (with_reducible exact Ext.refl _) | (with_reducible refine Ext.alloc ?_ _) | (with_reducible refine Ext.drew ?_) | (with_reducible refine Ext.drewN ?_ _) | (with_reducible refine Ext.setCell ?_ ?_ _) | (with_reducible refine Ext.trans ?_ (by assumption)) | go_size))) (Hx.out j u hj)) (by simp [intVals, Value.oneCell']) (by unfold maxLen; omega) (by omega) (by simp) ?_; intro v' w3 hown' hg3 hnil3; go_frame)
  have hE : Ext w w3 := ((Below.refl _ w).alloc (Nat.le_refl _) _).grown hg3 (by simp) (fun j e => by simp [Act.eval, Value.ownBlock] at e; omega)
  obtain ⟨g, k, rfl, hg, hr⟩ := rows_of_own Hl.out (by simpa using hown')
  go_ret
  exact ⟨g, k, rfl, hg, hr, hE⟩

end Go.Proofs.YtglfoglkdbbmmaaDoor
