/- Contracts of package cover: Uncovered, Decompose. -/
import Derived.Test.YtglfoglkdbbmmaaDoorCC
namespace Go.Proofs.YtglfoglkdbbmmaaDoor
open Go.RowKit

/-- What Uncovered returns. -/
def UncPost (w : World) (L1 L2 : List Int) (e : Ending) (w' : World) : Prop :=
  ∃ B1 o1 k1 B2 o2 k2 : Nat, e = .returned (.tuple #[.agg #[.slice (some ⟨B1, o1, none⟩) 24 k1], .agg #[.slice (some ⟨B2, o2, none⟩) 24 k2], .int .i64 0]) ∧ VA w' B1 o1 L1 ∧ VA w' B2 o2 L2 ∧ w.heap.size ≤ B1 ∧ w.heap.size ≤ B2 ∧ Ext w w'
def UncErr (w : World) (e : Ending) (w' : World) : Prop := e = .returned (.tuple #[.agg #[.slice none 0 0], .agg #[.slice none 0 0], .int .i64 160]) ∧ Ext w w'

set_option maxHeartbeats 4000000 in
theorem Uncovered_v {w1 w2 : World} {a : Option Addr} {n : Nat} {ss : List (List Int × List Int)} {b o : Nat} (c k : Nat) {l : List Int} (w : World) (hl : VA w1 b o l) (e1 : Ext w1 w) (h : StripsAt w2 a n ss) (e2 : Ext w2 w) (hok : Globe.stripsOk ss = true) :
    Calls Tryd.prog 15 #[.agg #[.slice (some ⟨b, o, none⟩) 24 k], .slice a n c] w (UncPost w (Globe.leftL l (ss.map fun s => s.2)) (Globe.leftL l (ss.map fun s => s.1))) := by
  have H := Lib.hid (h.ext e2)
  have HL := Lib.hid (hl.ext e1)
  have hbl := HL.out.lt
  clear h hl e1 e2
  have Hok := Lib.hid hok; clear hok
  go_enter Tryd.func15, Tryd.ntmps15
  go_wp2_with fail
  refine (Valid_e k _ HL.out.aa (by (repeat' (first | (with_reducible assumption) | (with_reducible exact Ext.refl _) | (with_reducible refine Ext.alloc ?_ _) | (with_reducible refine Ext.drew ?_) | (with_reducible refine Ext.drewN ?_ _) | (with_reducible refine Ext.setCell ?_ ?_ _) | (with_reducible refine Ext.trans ?_ (by assumption)) | go_size)))).mono ?_
  rintro e w1 ⟨rfl, hb⟩
  have hc := hb.cellE; have hf := hb.frozenE; have hz := hb.size; have ha := alloc_keeps w1; (try simp only [World.size_alloc] at hc hf hz); (try simp only [World.size_setCell] at hc hf hz); (try simp only [World.size_drew] at hc hf hz)
  go_wp2_with fail
  refine (ValidS_r c _ H.out (by (repeat' (first | (with_reducible assumption) | (with_reducible exact Ext.refl _) | (with_reducible refine Ext.alloc ?_ _) | (with_reducible refine Ext.drew ?_) | (with_reducible refine Ext.drewN ?_ _) | (with_reducible refine Ext.setCell ?_ ?_ _) | (with_reducible refine Ext.trans ?_ (by assumption)) | go_size))) Hok.out).mono ?_
  rintro e w2 ⟨rfl, hb⟩
  have hc := hb.cellE; have hf := hb.frozenE; have hz := hb.size; have ha := alloc_keeps w2; (try simp only [World.size_alloc] at hc hf hz); (try simp only [World.size_setCell] at hc hf hz); (try simp only [World.size_drew] at hc hf hz)
  go_wp2_with fail
  refine (copied_v k _ HL.out (by (repeat' (first | (with_reducible assumption) | (with_reducible exact Ext.refl _) | (with_reducible refine Ext.alloc ?_ _) | (with_reducible refine Ext.drew ?_) | (with_reducible refine Ext.drewN ?_ _) | (with_reducible refine Ext.setCell ?_ ?_ _) | (with_reducible refine Ext.trans ?_ (by assumption)) | go_size)))).mono ?_
  rintro e w3 ⟨B3, k3, rfl, hB3, hv3, hb⟩
  have hc := hb.cellE; have hf := hb.frozenE; have hz := hb.size; have ha := alloc_keeps w3; (try simp only [World.size_alloc] at hc hf hz); (try simp only [World.size_setCell] at hc hf hz); (try simp only [World.size_drew] at hc hf hz)
  go_wp2_with fail
  refine (foldU1_v c k3 _ H.out (by (repeat' (first | (with_reducible assumption) | (with_reducible exact Ext.refl _) | (with_reducible refine Ext.alloc ?_ _) | (with_reducible refine Ext.drew ?_) | (with_reducible refine Ext.drewN ?_ _) | (with_reducible refine Ext.setCell ?_ ?_ _) | (with_reducible refine Ext.trans ?_ (by assumption)) | go_size))) Hok.out hv3 (by (repeat' (first | (with_reducible assumption) | (with_reducible exact Ext.refl _) | (with_reducible refine Ext.alloc ?_ _) | (with_reducible refine Ext.drew ?_) | (with_reducible refine Ext.drewN ?_ _) | (with_reducible refine Ext.setCell ?_ ?_ _) | (with_reducible refine Ext.trans ?_ (by assumption)) | go_size)))).mono ?_
  rintro e w4 ⟨B4, o4, k4, rfl, hv4, hB4, hb⟩
  have hc := hb.cellE; have hf := hb.frozenE; have hz := hb.size; have ha := alloc_keeps w4; (try simp only [World.size_alloc] at hc hf hz); (try simp only [World.size_setCell] at hc hf hz); (try simp only [World.size_drew] at hc hf hz)
  go_wp2_with fail
  have c7 : ∀ X, Ext (w4.alloc (.cells #[.slice (some ⟨B4, o4, none⟩) 24 k4] 25)) X → X.cell? ⟨w4.heap.size, 0, none⟩ = some (.slice (some ⟨B4, o4, none⟩) 24 k4) := fun X hX => hX.cell (by simp [go_sem])
  have C7 := Lib.hid c7; clear c7
  refine (copied_v k _ HL.out (by (repeat' (first | (with_reducible assumption) | (with_reducible exact Ext.refl _) | (with_reducible refine Ext.alloc ?_ _) | (with_reducible refine Ext.drew ?_) | (with_reducible refine Ext.drewN ?_ _) | (with_reducible refine Ext.setCell ?_ ?_ _) | (with_reducible refine Ext.trans ?_ (by assumption)) | go_size)))).mono ?_
  rintro e w5 ⟨B5, k5, rfl, hB5, hv5, hb⟩
  have hc := hb.cellE; have hf := hb.frozenE; have hz := hb.size; have ha := alloc_keeps w5; (try simp only [World.size_alloc] at hc hf hz); (try simp only [World.size_setCell] at hc hf hz); (try simp only [World.size_drew] at hc hf hz)
  go_wp2_with fail
  refine (foldU2_v c k5 _ H.out (by (repeat' (first | (with_reducible assumption) | (with_reducible exact Ext.refl _) | (with_reducible refine Ext.alloc ?_ _) | (with_reducible refine Ext.drew ?_) | (with_reducible refine Ext.drewN ?_ _) | (with_reducible refine Ext.setCell ?_ ?_ _) | (with_reducible refine Ext.trans ?_ (by assumption)) | go_size))) Hok.out hv5 (by (repeat' (first | (with_reducible assumption) | (with_reducible exact Ext.refl _) | (with_reducible refine Ext.alloc ?_ _) | (with_reducible refine Ext.drew ?_) | (with_reducible refine Ext.drewN ?_ _) | (with_reducible refine Ext.setCell ?_ ?_ _) | (with_reducible refine Ext.trans ?_ (by assumption)) | go_size)))).mono ?_
  rintro e w6 ⟨B6, o6, k6, rfl, hv6, hB6, hb⟩
  have hc := hb.cellE; have hf := hb.frozenE; have hz := hb.size; have ha := alloc_keeps w6; (try simp only [World.size_alloc] at hc hf hz); (try simp only [World.size_setCell] at hc hf hz); (try simp only [World.size_drew] at hc hf hz)
  go_wp2_with fail
  have q1 := BoxAt.ext (b := w.heap.size + 1) (o := 0) (v := .slice none 0 0) (show Ext _ w1 by with_reducible assumption) ⟨by simp [go_sem], by simp [go_sem]⟩
  have q2 := BoxAt.ext (b := w.heap.size + 1 + 1) (o := 0) (v := .slice none 0 0) (show Ext _ w1 by with_reducible assumption) ⟨by simp [go_sem], by simp [go_sem]⟩
  have hEw : Ext w w1 := by (repeat' (first | (with_reducible assumption) | (with_reducible exact Ext.refl _) | (with_reducible refine Ext.alloc ?_ _) | (with_reducible refine Ext.drew ?_) | (with_reducible refine Ext.drewN ?_ _) | (with_reducible refine Ext.setCell ?_ ?_ _) | (with_reducible refine Ext.trans ?_ (by assumption)) | go_size))
  have hE1 : Ext w1 w3 := by (repeat' (first | (with_reducible assumption) | (with_reducible exact Ext.refl _) | (with_reducible refine Ext.alloc ?_ _) | (with_reducible refine Ext.drew ?_) | (with_reducible refine Ext.drewN ?_ _) | (with_reducible refine Ext.setCell ?_ ?_ _) | (with_reducible refine Ext.trans ?_ (by assumption)) | go_size))
  have hE3 : Ext w3 w4 := by (repeat' (first | (with_reducible assumption) | (with_reducible exact Ext.refl _) | (with_reducible refine Ext.alloc ?_ _) | (with_reducible refine Ext.drew ?_) | (with_reducible refine Ext.drewN ?_ _) | (with_reducible refine Ext.setCell ?_ ?_ _) | (with_reducible refine Ext.trans ?_ (by assumption)) | go_size))
  have hE56 : Ext w5 w6 := by (repeat' (first | (with_reducible assumption) | (with_reducible exact Ext.refl _) | (with_reducible refine Ext.alloc ?_ _) | (with_reducible refine Ext.drew ?_) | (with_reducible refine Ext.drewN ?_ _) | (with_reducible refine Ext.setCell ?_ ?_ _) | (with_reducible refine Ext.trans ?_ (by assumption)) | go_size))
  have hE45 : Ext (w4.alloc (.cells #[.slice (some ⟨B4, o4, none⟩) 24 k4] 25)) w5 := by with_reducible assumption
  have hE4 : Ext w4 w6 := (Ext.alloc (Ext.refl w4) _).trans (hE45.trans hE56)
  have hs1 := q2.lt
  have hs3 := hE1.size
  have hs4 := hE3.size
  have hs5 : w4.heap.size + 1 ≤ w5.heap.size := by have := hE45.size; simp at this; omega
  have hs6 : w5.heap.size ≤ w6.heap.size := hE56.size
  simp only [World.size_alloc] at hB3 hB5
  have hne4 : B4 ≠ w.heap.size + 1 ∧ B4 ≠ w.heap.size + 1 + 1 := by omega
  have hge4 : w.heap.size ≤ B4 ∧ w.heap.size ≤ B6 := by omega
  have hne6 : B6 ≠ w.heap.size + 1 ∧ B6 ≠ w.heap.size + 1 + 1 := by omega
  refine wp_name (fun V => Ext w V ∧ V.cell? ⟨w4.heap.size, 0, none⟩ = some (.slice (some ⟨B4, o4, none⟩) 24 k4) ∧ V.cell? ⟨w6.heap.size, 0, none⟩ = some (.slice (some ⟨B6, o6, none⟩) 24 k6) ∧ BoxAt V (w.heap.size + 1) 0 (.slice none 0 0) ∧ BoxAt V (w.heap.size + 1 + 1) 0 (.slice none 0 0) ∧ VA V B4 o4 (Globe.leftL l (ss.map fun s => s.2)) ∧ VA V B6 o6 (Globe.leftL l (ss.map fun s => s.1)))
    ⟨hEw.trans (hE1.trans (hE3.trans (Ext.alloc hE4 _))), C7.out _ (Ext.alloc (hE45.trans hE56) _), by simp [go_sem], q1.ext (by (repeat' (first | (with_reducible assumption) | (with_reducible exact Ext.refl _) | (with_reducible refine Ext.alloc ?_ _) | (with_reducible refine Ext.drew ?_) | (with_reducible refine Ext.drewN ?_ _) | (with_reducible refine Ext.setCell ?_ ?_ _) | (with_reducible refine Ext.trans ?_ (by assumption)) | go_size))), q2.ext (by (repeat' (first | (with_reducible assumption) | (with_reducible exact Ext.refl _) | (with_reducible refine Ext.alloc ?_ _) | (with_reducible refine Ext.drew ?_) | (with_reducible refine Ext.drewN ?_ _) | (with_reducible refine Ext.setCell ?_ ?_ _) | (with_reducible refine Ext.trans ?_ (by assumption)) | go_size))), hv4.ext (by (repeat' (first | (with_reducible assumption) | (with_reducible exact Ext.refl _) | (with_reducible refine Ext.alloc ?_ _) | (with_reducible refine Ext.drew ?_) | (with_reducible refine Ext.drewN ?_ _) | (with_reducible refine Ext.setCell ?_ ?_ _) | (with_reducible refine Ext.trans ?_ (by assumption)) | go_size))), hv6.ext (by (repeat' (first | (with_reducible assumption) | (with_reducible exact Ext.refl _) | (with_reducible refine Ext.alloc ?_ _) | (with_reducible refine Ext.drew ?_) | (with_reducible refine Ext.drewN ?_ _) | (with_reducible refine Ext.setCell ?_ ?_ _) | (with_reducible refine Ext.trans ?_ (by assumption)) | go_size)))⟩ ?_
  clear q1 q2 hEw hE1 hE3 hE4 hE45 hE56 hv3 hv4 hv5 hv6 hB3 hB4 hB5 hB6 C7 hb hc hf hz ha
  iterate 5 clear hb hc hf hz ha
  rintro V ⟨hE, c7, c8, ⟨c4, f4⟩, ⟨c5, f5⟩, v4, v6⟩
  have l4 := World.block_lt_of_cell? V _ c4
  have l5 := World.block_lt_of_cell? V _ c5
  have l7 := World.block_lt_of_cell? V _ c7
  have l8 := World.block_lt_of_cell? V _ c8
  have hX : ∀ v1 v2, Ext w (((V.drew).setCell ⟨w.heap.size + 1, 0, none⟩ v1).setCell ⟨w.heap.size + 1 + 1, 0, none⟩ v2) := fun v1 v2 => Ext.setCell (Ext.setCell (Ext.drew hE) (p := ⟨w.heap.size + 1, 0, none⟩) (by show _ ≤ w.heap.size + 1; omega) _) (p := ⟨w.heap.size + 1 + 1, 0, none⟩) (by show _ ≤ w.heap.size + 1 + 1; omega) _
  have HX := Lib.hid hX; clear hX hE
  have hY : ∀ v1 v2, VA (((V.drew).setCell ⟨w.heap.size + 1, 0, none⟩ v1).setCell ⟨w.heap.size + 1 + 1, 0, none⟩ v2) B4 o4 (Globe.leftL l (ss.map fun s => s.2)) ∧ VA (((V.drew).setCell ⟨w.heap.size + 1, 0, none⟩ v1).setCell ⟨w.heap.size + 1 + 1, 0, none⟩ v2) B6 o6 (Globe.leftL l (ss.map fun s => s.1)) := fun v1 v2 => ⟨VA.other (VA.other (v4.ext (Ext.drew (Ext.refl _))) (p := ⟨w.heap.size + 1, 0, none⟩) hne4.1.symm _) (p := ⟨w.heap.size + 1 + 1, 0, none⟩) hne4.2.symm _, VA.other (VA.other (v6.ext (Ext.drew (Ext.refl _))) (p := ⟨w.heap.size + 1, 0, none⟩) hne6.1.symm _) (p := ⟨w.heap.size + 1 + 1, 0, none⟩) hne6.2.symm _⟩
  have HY := Lib.hid hY; clear hY v4 v6 hne4 hne6
  -- <<unc
  refine wg_begin [(some 27, [7], []), (some 28, [8], []), (none, [4, 27], [0, 0]), (none, [5, 28], [1, 2, 0, 1, 2]), (some 6, [], [3, 0, 1, 2, 3])] (fun w' => w'.cell? ⟨w4.heap.size, 0, none⟩ = some (.slice (some ⟨B4, o4, none⟩) 24 k4) ∧ w'.cell? ⟨w6.heap.size, 0, none⟩ = some (.slice (some ⟨B6, o6, none⟩) 24 k6)) (by kernel_rfl) (by kernel_rfl) (by kernel_rfl) (by kernel_rfl) (by intro c d v a w h; cases d <;> first | exact h | (exact nomatch h.1) | (dsimp +zetaDelta only [Exit.then, Exit.inBlock] at h ⊢; exact h)) (⟨c7, c8⟩) (fun ops Q L hL hR hK hHeld => ?_); replace hL := Lib.hid hL; have hW1 := @evalW_tmp; have hW2 := @evalW_const; have hW3 := @evalW_func; have hW4 := @look_cons; have hW5 := @look_nil
  have r7 := wg_read hL.out 7 rfl
  have r8 := wg_read hL.out 8 rfl
  have r4 := wg_read hL.out 4 rfl
  have r5 := wg_read hL.out 5 rfl
  (refine wg_take 0 (v := ?_) hR rfl (by kernel_rfl) (by kernel_rfl) ?_ (by with_reducible assumption) ?_; rotate_left; (focus (intro w hSw; (try dsimp only at hSw); go_simp; (try with_reducible rfl))); (dsimp only [putW]))
  (refine wg_take 1 (v := ?_) hR rfl (by kernel_rfl) (by kernel_rfl) ?_ (by with_reducible assumption) ?_; rotate_left; (focus (intro w hSw; (try dsimp only at hSw); go_simp; (try with_reducible rfl))); (dsimp only [putW]))
  (refine wg_step 2 hR rfl (by kernel_rfl) (by kernel_rfl) ?_ (by kernel_rfl); refine wg_skp (w' := ?_) ?_ ?_ ?_; rotate_left; (focus (go_simp; first | done | (with_reducible rfl))); (focus (exact ⟨by simp [go_sem, c7], by simp [go_sem, c8]⟩)); intro hHeld; (dsimp only [putW]))
  (refine wg_step 3 hR rfl (by kernel_rfl) (by kernel_rfl) ?_ (by kernel_rfl); refine wg_skp (w' := ?_) ?_ ?_ ?_; rotate_left; (focus (go_simp; first | done | (with_reducible rfl))); (focus (exact ⟨by simp [go_sem, c7], by simp [go_sem, c8]⟩)); intro hHeld; (dsimp only [putW]))
  (refine wg_take 4 (v := ?_) hR rfl (by kernel_rfl) (by kernel_rfl) ?_ (by with_reducible assumption) ?_; rotate_left; (focus (intro w hSw; (try dsimp only at hSw); go_simp; (try with_reducible rfl))); (dsimp only [putW]))
  refine wg_fin hR hK [(6, 0), (20, 2), (0, 1)] (by kernel_rfl) (by kernel_rfl) (by dsimp only [mg, gsOf, valAt]) ?_; clear hW1 hW2 hW3 hW4 hW5 hR hK hL
  clear r7
  clear r8
  clear r4
  clear r5
  -- >>
  go_wp2_with fail
  refine bodyPost_ret (v := .tuple #[.agg #[.slice (some ⟨B4, o4, none⟩) 24 k4], .agg #[.slice (some ⟨B6, o6, none⟩) 24 k6], .int .i64 0]) (by simp [results, Tryd.results15, go_sem, c4, c5]) rfl ⟨B4, o4, k4, B6, o6, k6, rfl, (HY.out _ _).1, (HY.out _ _).2, hge4.1, hge4.2, HX.out _ _⟩

end Go.Proofs.YtglfoglkdbbmmaaDoor
