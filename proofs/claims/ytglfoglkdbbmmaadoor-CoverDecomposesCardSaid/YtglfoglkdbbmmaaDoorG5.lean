/- Contracts of package globe: Count. -/
import Derived.Test.YtglfoglkdbbmmaaDoorG4
namespace Go.Proofs.YtglfoglkdbbmmaaDoor
open Go.RowKit Go.Shelf

attribute [local go_sem] Oper.semAt_some

theorem Count_no (a : Option Addr) (l : List Int) (c : Nat) (w : World) (h : IntsAt w a l) (hl : l.length ≤ 140737488355328) (hv : Globe.validL l = false) :
    Calls Tryd.prog 29 #[.agg #[.slice a l.length c]] w fun e w' => e = .returned (.int .i64 0) ∧ Ext w w' := by
  have H := Lib.hid h; clear h
  go_enter Tryd.func29, Tryd.ntmps29
  go_wp2_with (go_at_call 38; refine (Valid_c _ _ _ _ (H.out.ext (by (repeat' (first | (with_reducible assumption) | (with_reducible exact Ext.refl _) | (with_reducible refine Ext.alloc ?_ _) | (with_reducible refine Ext.drew ?_) | (with_reducible refine Ext.drewN ?_ _) | (with_reducible refine Ext.setCell ?_ ?_ _) | (with_reducible refine Ext.trans ?_ (by assumption)) | go_size)))) hl).mono ?_; rintro e w1 ⟨rfl, hb⟩; have hc := hb.cellE; have hf := hb.frozenE; have hz := hb.size; have ha := alloc_keeps w1; (try simp only [World.size_alloc] at hc hf hz); (try simp only [World.size_setCell] at hc hf hz); (try simp only [World.size_drew] at hc hf hz))
  go_ret
  exact ⟨rfl, by (repeat' (first | (with_reducible assumption) | (with_reducible exact Ext.refl _) | (with_reducible refine Ext.alloc ?_ _) | (with_reducible refine Ext.drew ?_) | (with_reducible refine Ext.drewN ?_ _) | (with_reducible refine Ext.setCell ?_ ?_ _) | (with_reducible refine Ext.trans ?_ (by assumption)) | go_size))⟩

set_option maxHeartbeats 2000000 in
theorem Count_yes (b off c : Nat) (l : List Int) (w : World) (h : ∀ i, i < l.length → w.cell? ⟨b, off + i, none⟩ = some (.int .i64 (Globe.nth l i))) (hv : Globe.validL l = true) (hT : Tab w) :
    Calls Tryd.prog 29 #[.agg #[.slice (some ⟨b, off, none⟩) l.length c]] w fun e w' => e = .returned (.int .i64 (Globe.cellsTo l 24).length) ∧ Ext w w' := by
  have hl24 := (Globe.validL_t.1 hv).1
  have H : Hid (IntsAt w (some ⟨b, off, none⟩) l) := .inr ⟨b, off, rfl, h⟩
  have H2 := Lib.hid h; clear h
  have Hl := Lib.hid hl24
  refine (callsIn_wide (n := 3)).1 ?_
  refine callsIn_of_wp_marks Tryd.func29 rfl trivial ?_ rfl
  simp only [Tryd.ntmps29, List.size_toArray, List.length_cons, List.length_nil, Nat.reduceAdd, Nat.reduceSub, Array.replicate_succ, Array.replicate_zero, List.push_toArray, List.append_toArray, List.nil_append, List.cons_append]
  refine wpIn_wide.2 ?_
  have hl : l.length ≤ 140737488355328 := by omega
  clear hl24
  go_wp2_with (first | (go_at_call 38; refine (Valid_c _ _ _ _ (H.out.ext (by (repeat' (first | (with_reducible assumption) | (with_reducible exact Ext.refl _) | (with_reducible refine Ext.alloc ?_ _) | (with_reducible refine Ext.drew ?_) | (with_reducible refine Ext.drewN ?_ _) | (with_reducible refine Ext.setCell ?_ ?_ _) | (with_reducible refine Ext.trans ?_ (by assumption)) | go_size)))) hl).mono ?_; rintro e w1 ⟨rfl, hb⟩; have hc := hb.cellE; have hf := hb.frozenE; have hz := hb.size; have ha := alloc_keeps w1; (try simp only [World.size_alloc] at hc hf hz); (try simp only [World.size_setCell] at hc hf hz); (try simp only [World.size_drew] at hc hf hz)) | (go_at_call 58; refine (cells_c _ _ _ _).mono ?_; rintro e w' ⟨rfl, rfl⟩))
  obtain ⟨W0, hW0⟩ : ∃ W0, W0 = w1.alloc (.cells #[.slice (some ⟨b, off, none⟩) l.length c] 25) := ⟨_, rfl⟩
  have hzB : w1.heap.size < W0.heap.size := by rw [hW0]; simp
  have hE1 : Ext w1 W0 := by rw [hW0]; (repeat' (first | (with_reducible assumption) | (with_reducible exact Ext.refl _) | (with_reducible refine Ext.alloc ?_ _) | (with_reducible refine Ext.drew ?_) | (with_reducible refine Ext.drewN ?_ _) | (with_reducible refine Ext.setCell ?_ ?_ _) | (with_reducible refine Ext.trans ?_ (by assumption)) | go_size))
  have hEw : Ext w w1 := by (repeat' (first | (with_reducible assumption) | (with_reducible exact Ext.refl _) | (with_reducible refine Ext.alloc ?_ _) | (with_reducible refine Ext.drew ?_) | (with_reducible refine Ext.drewN ?_ _) | (with_reducible refine Ext.setCell ?_ ?_ _) | (with_reducible refine Ext.trans ?_ (by assumption)) | go_size))
  have hE0 : Ext w W0 := hEw.trans hE1
  have c3 : w1.cell? ⟨w.heap.size + 1, 0, none⟩ = some (.int .i64 0) := hb.cell (by simp [go_sem])
  have f3 : W0.frozen? ⟨w.heap.size + 1, 0, none⟩ = false := hE1.free c3 (hb.free (v := .int .i64 0) (by simp [go_sem]) (by simp [go_sem]))
  replace c3 := hE1.cell c3
  have cB : W0.cell? ⟨w1.heap.size, 0, none⟩ = some (.slice (some ⟨b, off, none⟩) 24 c) := by rw [hW0, ← Hl.out]; simp [go_sem]
  have hr : ∀ i, i < 24 → W0.cell? ⟨b, off + i, none⟩ = some (.int .i64 (Globe.nth l i)) := fun i hi => hE0.cell (H2.out i (by rw [Hl.out]; exact hi))
  have hbs : b < w.heap.size := World.block_lt_of_cell? w _ (H2.out 0 (by rw [Hl.out]; decide))
  have hgs := hT.1
  have hT0 := hT.ext hE0
  rw [← hW0]
  clear hW0 hc hf hb
  refine wpIn_wide (n := 3).1 ?_
  refine wpIn_rangeFunc_ownF (F := Fence.wide) rfl (by omega) (gf := 74) (lb := #[.pointer (some ⟨w1.heap.size, 0, none⟩)]) rfl trivial (enters_of Tryd.func74 (by kernel_rfl) rfl)
    (cells_stops _ w1.heap.size b off c W0.heap.size (fun k => k = w.heap.size + 1) l W0 hv hzB (by omega) (by omega) (by omega) (by omega) (by omega) (Nat.le_refl _) cB hr hT0) KeepX.trans (KeepX.putObj (Nat.le_refl _)) (Below.refl _ _) (fun _ => rfl)
    (fun pre W => (W.cell? ⟨w.heap.size + 1, 0, none⟩ = some (.int .i64 (pre.length : Int)) ∧ W.frozen? ⟨w.heap.size + 1, 0, none⟩ = false) ∧ Ext w W)
    (fun _ _ _ => False)
    (OwnFrom.and (Own.from (fun s A B row hs hg hr => ⟨cell_kept hs.1 hg hr, (frozen_kept hs.1 hg hr).trans hs.2⟩) _) (ownFrom_below (Nat.le_refl _) (by omega)))
    (fun _ _ _ _ _ hs _ _ => hs) ⟨⟨c3, f3⟩, hE0⟩
    (fun p => { tmps := #[.agg #[.slice (some ⟨b, off, none⟩) l.length c], .pointer (some ⟨w.heap.size, 0, none⟩), .int .i64 0, .pointer (some ⟨w.heap.size + 1, 0, none⟩), .agg #[.slice (some ⟨b, off, none⟩) l.length c], .bool true, .agg #[.slice (some ⟨b, off, none⟩) l.length c], .func (.func 74) #[] #[.pointer (some ⟨w1.heap.size, 0, none⟩)], .agg #[.int .i64 (p.1 : Int), .int .i64 (p.2 : Int)], undef, undef, undef], defers := [] }) ?assign ?body ?done ?stop
  case assign =>
    intro ll p W K hK
    dsimp only [encCell]
    gi_wp2
    simpa using hK
  case body =>
    rintro ll pre p W ⟨⟨hA, hF⟩, hE⟩ hlen
    have hcl := Globe.cellsTo_len l 24
    gi_wp2
    refine ⟨by (repeat' (first | (with_reducible refine KeepsOthers.trans ?_ (KeepsOthers.setCell _ _ _)) | (with_reducible refine KeepsOthers.trans ?_ (KeepsOthers.drew _)) | (with_reducible exact KeepsOthers.refl _) | (refine Ext.others ?_; (repeat' (first | (with_reducible assumption) | (with_reducible exact Ext.refl _) | (with_reducible refine Ext.alloc ?_ _) | (with_reducible refine Ext.drew ?_) | (with_reducible refine Ext.drewN ?_ _) | (with_reducible refine Ext.setCell ?_ ?_ _) | (with_reducible refine Ext.trans ?_ (by assumption)) | go_size)); done))), KeepX.setCell (X := fun k => k = w.heap.size + 1) W (p := ⟨w.heap.size + 1, 0, none⟩) rfl _, ⟨?_, ?_⟩, by (repeat' (first | (with_reducible assumption) | (with_reducible exact Ext.refl _) | (with_reducible refine Ext.alloc ?_ _) | (with_reducible refine Ext.drew ?_) | (with_reducible refine Ext.drewN ?_ _) | (with_reducible refine Ext.setCell ?_ ?_ _) | (with_reducible refine Ext.trans ?_ (by assumption)) | go_size))⟩
    · simp [go_sem, hA]
    · simp [go_sem, hF]
  case done =>
    rintro D xs W hD rfl ⟨⟨hA, hF⟩, hE⟩ hK
    go_wp2
    refine ⟨by simp, .inl ⟨_, _, rfl, run_takeDeferred hK, ?_⟩⟩
    exact ⟨_, results_tmp rfl _ _ _, rfl, Ext.shut hE (by omega) hK⟩
  case stop =>
    rintro D c pre W _ _ h _
    exact h.elim

end Go.Proofs.YtglfoglkdbbmmaaDoor
