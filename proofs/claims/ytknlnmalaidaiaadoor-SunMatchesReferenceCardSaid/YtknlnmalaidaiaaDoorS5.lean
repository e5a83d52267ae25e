/- Contracts of package sun: minutes, Next. -/
import Derived.Test.YtknlnmalaidaiaaDoorS4
namespace Go.Proofs.YtknlnmalaidaiaaDoor
open Go.RowKit Go.Shelf

attribute [local go_sem] Oper.semAt_some

theorem Next_no (x y t : Int) (lit : Bool) (w : World) (h : (Sun.minB t && Globe.vcB x y) = false) :
    Calls Tryd.prog 20 #[.agg #[.int .i64 x, .int .i64 y], .int .i64 t, .bool lit] w fun e w' => e = .returned (.tuple #[.int .i64 0, .int .i64 60]) ∧ Ext w w' := by
  rcases Bool.and_eq_false_iff.1 h with h1 | h1
  all_goals
    clear h
    go_enter Tryd.func20, Tryd.ntmps20
    go_wp2_with (first | (go_at_call 33; refine (isMinute_c _ _).mono ?_; rintro e w' ⟨rfl, rfl⟩) | (go_at_call 38; refine (ValidCell_c _ _ _).mono ?_; rintro e w1 ⟨rfl, hb⟩; have hc := hb.cellE; have hf := hb.frozenE; have hz := hb.size; have ha := alloc_keeps w1; (try simp only [World.size_alloc] at hc hf hz); (try simp only [World.size_setCell] at hc hf hz); (try simp only [World.size_drew] at hc hf hz)))
    all_goals
      first | go_returns | ((try simp only [Exit.inBlock, Exit.then]); refine bodyPost_ret (v := .tuple #[.int .i64 0, .int .i64 60]) (by simp [results, Tryd.f20, go_sem, hc]) rfl ?_)
      exact ⟨rfl, by (repeat' (first | (with_reducible assumption) | (with_reducible exact Ext.refl _) | (with_reducible refine Ext.alloc ?_ _) | (with_reducible refine Ext.drew ?_) | (with_reducible refine Ext.drewN ?_ _) | (with_reducible refine Ext.setCell ?_ ?_ _) | (with_reducible refine Ext.trans ?_ (by assumption)) | go_size))⟩

set_option maxHeartbeats 2000000 in
theorem Next_yes (x y t : Int) (lit : Bool) (w : World) (h : Sun.minB t = true) (hv : Globe.vcB x y = true) :
    Calls Tryd.prog 20 #[.agg #[.int .i64 x, .int .i64 y], .int .i64 t, .bool lit] w fun e w' => e = .returned (.tuple #[.int .i64 (Sun.next x y t lit), .int .i64 0]) ∧ Ext w w' := by
  refine (callsIn_wide (n := 3)).1 ?_
  refine callsIn_of_wp_marks Tryd.func20 rfl trivial ?_ rfl
  simp only [Tryd.ntmps20, List.size_toArray, List.length_cons, List.length_nil, Nat.reduceAdd, Nat.reduceSub, Array.replicate_succ, Array.replicate_zero, List.push_toArray, List.append_toArray, List.nil_append, List.cons_append]
  refine wpIn_wide.2 ?_
  go_wp2_with (first | (go_at_call 33; refine (isMinute_c _ _).mono ?_; rintro e w' ⟨rfl, rfl⟩) | (go_at_call 38; refine (ValidCell_c _ _ _).mono ?_; rintro e w1 ⟨rfl, hb⟩; have hc := hb.cellE; have hf := hb.frozenE; have hz := hb.size; have ha := alloc_keeps w1; (try simp only [World.size_alloc] at hc hf hz); (try simp only [World.size_setCell] at hc hf hz); (try simp only [World.size_drew] at hc hf hz)) | (go_at_call 42; refine (minutes_c _ _).mono ?_; rintro e w' ⟨rfl, rfl⟩))
  obtain ⟨W0, hW0⟩ : ∃ W0, W0 = w1.alloc (.cells #[.int .i64 t] 3) := ⟨_, rfl⟩
  have hzB : w1.heap.size < W0.heap.size := by rw [hW0]; simp
  have hE0 : Ext w W0 := by rw [hW0]; (repeat' (first | (with_reducible assumption) | (with_reducible exact Ext.refl _) | (with_reducible refine Ext.alloc ?_ _) | (with_reducible refine Ext.drew ?_) | (with_reducible refine Ext.drewN ?_ _) | (with_reducible refine Ext.setCell ?_ ?_ _) | (with_reducible refine Ext.trans ?_ (by assumption)) | go_size))
  have hE1 : Ext w1 W0 := by rw [hW0]; (repeat' (first | (with_reducible assumption) | (with_reducible exact Ext.refl _) | (with_reducible refine Ext.alloc ?_ _) | (with_reducible refine Ext.drew ?_) | (with_reducible refine Ext.drewN ?_ _) | (with_reducible refine Ext.setCell ?_ ?_ _) | (with_reducible refine Ext.trans ?_ (by assumption)) | go_size))
  have c30 : W0.cell? ⟨w.heap.size, 0, none⟩ = some (.int .i64 x) := hE1.cell (hb.cell (by simp [go_sem]))
  have c31 : W0.cell? ⟨w.heap.size, 1, none⟩ = some (.int .i64 y) := hE1.cell (hb.cell (by simp [go_sem]))
  have c5 : W0.cell? ⟨w.heap.size + 1, 0, none⟩ = some (.bool lit) := hE1.cell (hb.cell (by simp [go_sem]))
  have c6 : w1.cell? ⟨w.heap.size + 1 + 1, 0, none⟩ = some (.int .i64 0) := hb.cell (by simp [go_sem])
  have c7 : w1.cell? ⟨w.heap.size + 1 + 1 + 1, 0, none⟩ = some (.int .i64 0) := hb.cell (by simp [go_sem])
  have f6 : W0.frozen? ⟨w.heap.size + 1 + 1, 0, none⟩ = false := hE1.free c6 (hb.free (v := .int .i64 0) (by simp [go_sem]) (by simp [go_sem]))
  have f7 : W0.frozen? ⟨w.heap.size + 1 + 1 + 1, 0, none⟩ = false := hE1.free c7 (hb.free (v := .int .i64 0) (by simp [go_sem]) (by simp [go_sem]))
  replace c6 := hE1.cell c6
  replace c7 := hE1.cell c7
  have cB : W0.cell? ⟨w1.heap.size, 0, none⟩ = some (.int .i64 t) := by rw [hW0]; simp [go_sem]
  rw [← hW0]
  clear hW0 hc hf hb
  obtain ⟨h0, h1⟩ := Sun.minB_t.1 h
  refine wpIn_wide (n := 3).1 ?_
  refine wpIn_rangeFunc_ownF (F := Fence.wide) rfl (by omega) (gf := 51) (lb := #[.pointer (some ⟨w1.heap.size, 0, none⟩)]) rfl trivial (enters_of Tryd.func51 (by kernel_rfl) rfl)
    (minutes_stops _ w1.heap.size W0.heap.size t W0 h0 h1 hzB (Nat.le_refl _) cB) belowK_t (belowK_b (Nat.le_refl _)) (Below.refl _ _) (fun _ => rfl)
    (fun pre W => (∀ k ∈ pre, (Sun.litB x y k == lit) = false) ∧ Ext W0 W)
    (fun c pre W => c = .ret ∧ ∃ p k, pre = p ++ [k] ∧ (∀ k ∈ p, (Sun.litB x y k == lit) = false) ∧ (Sun.litB x y k == lit) = true ∧ W.cell? ⟨w.heap.size + 1 + 1, 0, none⟩ = some (.int .i64 k) ∧ W.cell? ⟨w.heap.size + 1 + 1 + 1, 0, none⟩ = some (.int .i64 0) ∧ Ext w W)
    ?hI ?hIx ?h0 (fun k => { tmps := #[.agg #[.int .i64 x, .int .i64 y], .int .i64 t, .bool lit, .pointer (some ⟨w.heap.size, 0, none⟩), undef, .pointer (some ⟨w.heap.size + 1, 0, none⟩), .pointer (some ⟨w.heap.size + 1 + 1, 0, none⟩), .pointer (some ⟨w.heap.size + 1 + 1 + 1, 0, none⟩), .int .i64 k, .int .i64 t, .bool true, .bool false, .bool false, .agg #[.int .i64 x, .int .i64 y], .bool true, .bool false, .bool false, .int .i64 t, .func (.func 51) #[] #[.pointer (some ⟨w1.heap.size, 0, none⟩)], .int .i64 k, undef, undef, undef, undef, undef, undef], defers := [] }) ?assign ?body ?done ?stop
  case hI => exact OwnFrom.and (fun s A B row hs _ _ => hs) (ownFrom_below (Nat.le_refl _) (Nat.le_refl _))
  case hIx =>
    rintro c s A B row ⟨rfl, p, k, rfl, hp, hl, hA6, hA7, hE⟩ hg hr
    exact ⟨rfl, p, k, rfl, hp, hl, cell_kept hA6 hg (fun r e => (hr r e).2), cell_kept hA7 hg (fun r e => (hr r e).2), Below.grown hE hg hE.size (fun k e => Nat.le_trans hE0.size (hr k e).1)⟩
  case h0 => exact ⟨by simp, Ext.refl _⟩
  case assign =>
    intro l k W K hK
    gi_wp2
    exact hK
  case body =>
    rintro l pre k W ⟨hp, hE⟩ _
    have hmx : Tryd.prog.follows .mixedOrders = true := by kernel_rfl
    have hzW := hE.size
    replace c30 := hE.cell c30
    replace c31 := hE.cell c31
    replace c5 := hE.cell c5
    replace f6 := hE.free c6 f6
    replace f7 := hE.free c7 f7
    replace c6 := hE.cell c6
    replace c7 := hE.cell c7
    cases hq : (Sun.litB x y k == lit)
    all_goals
      gi_wp2
      gi_region_with_o (refine ⟨trivial, ?_⟩; gi_at_call 22; refine (CallsIn.inRound l (callsIn_wide.2 (Lit_c _ _ _ _))).mono ?_; rintro e w3 ⟨rfl, hb⟩; have hc := hb.cellE; have hf := hb.frozenE; have hz := hb.size; have ha := alloc_keeps w3; (try simp only [World.size_alloc] at hc hf hz); (try simp only [World.size_setCell] at hc hf hz); (try simp only [World.size_drew] at hc hf hz))
    all_goals gi_wp2
    all_goals first
      | exact ⟨Ext.others (by (repeat' (first | (with_reducible assumption) | (with_reducible exact Ext.refl _) | (with_reducible refine Ext.alloc ?_ _) | (with_reducible refine Ext.drew ?_) | (with_reducible refine Ext.drewN ?_ _) | (with_reducible refine Ext.setCell ?_ ?_ _) | (with_reducible refine Ext.trans ?_ (by assumption)) | go_size))), Below.mono (show Ext _ _ by (repeat' (first | (with_reducible assumption) | (with_reducible exact Ext.refl _) | (with_reducible refine Ext.alloc ?_ _) | (with_reducible refine Ext.drew ?_) | (with_reducible refine Ext.drewN ?_ _) | (with_reducible refine Ext.setCell ?_ ?_ _) | (with_reducible refine Ext.trans ?_ (by assumption)) | go_size))) hzW, fun k' hk => (List.mem_append.1 hk).elim (hp k') (fun e => by rw [List.mem_singleton.1 e]; exact hq), by (repeat' (first | (with_reducible assumption) | (with_reducible exact Ext.refl _) | (with_reducible refine Ext.alloc ?_ _) | (with_reducible refine Ext.drew ?_) | (with_reducible refine Ext.drewN ?_ _) | (with_reducible refine Ext.setCell ?_ ?_ _) | (with_reducible refine Ext.trans ?_ (by assumption)) | go_size))⟩
      | (refine ⟨?_, rfl, pre, k, rfl, hp, hq, ?_, ?_, ?_⟩ <;> first | ((repeat' (first | (with_reducible refine KeepsOthers.trans ?_ (KeepsOthers.setCell _ _ _)) | (with_reducible refine KeepsOthers.trans ?_ (KeepsOthers.drew _)) | (with_reducible exact KeepsOthers.refl _) | (refine Ext.others ?_; (repeat' (first | (with_reducible assumption) | (with_reducible exact Ext.refl _) | (with_reducible refine Ext.alloc ?_ _) | (with_reducible refine Ext.drew ?_) | (with_reducible refine Ext.drewN ?_ _) | (with_reducible refine Ext.setCell ?_ ?_ _) | (with_reducible refine Ext.trans ?_ (by assumption)) | go_size)); done))); done) | (simp [go_sem, hc, c6, c7]; done) | ((repeat' (first | (with_reducible assumption) | (with_reducible exact Ext.refl _) | (with_reducible refine Ext.alloc ?_ _) | (with_reducible refine Ext.drew ?_) | (with_reducible refine Ext.drewN ?_ _) | (with_reducible refine Ext.setCell ?_ ?_ _) | (with_reducible refine Ext.trans ?_ (by assumption)) | go_size)); done))
  case done =>
    rintro D xs W hD rfl ⟨hp, hE⟩ hK
    have hzW := hE.size
    replace f6 := hE.free c6 f6
    replace f7 := hE.free c7 f7
    replace c6 := hE.cell c6
    replace c7 := hE.cell c7
    go_wp2
    have hK' := ((KeepsOthers.setCell W ⟨w.heap.size + 1 + 1, 0, none⟩ (.int .i64 (-1))).trans (KeepsOthers.setCell _ ⟨w.heap.size + 1 + 1 + 1, 0, none⟩ (.int .i64 0))).same D _ hK rfl
    have d6 : ((W.setCell ⟨w.heap.size + 1 + 1, 0, none⟩ (.int .i64 (-1))).setCell ⟨w.heap.size + 1 + 1 + 1, 0, none⟩ (.int .i64 0)).cell? ⟨w.heap.size + 1 + 1, 0, none⟩ = some (.int .i64 (-1)) := by simp [go_sem, c6]
    have d7 : ((W.setCell ⟨w.heap.size + 1 + 1, 0, none⟩ (.int .i64 (-1))).setCell ⟨w.heap.size + 1 + 1 + 1, 0, none⟩ (.int .i64 0)).cell? ⟨w.heap.size + 1 + 1 + 1, 0, none⟩ = some (.int .i64 0) := by simp [go_sem, c7]
    refine ⟨by simp, .inl ⟨_, _, rfl, run_takeDeferred hK', ?_⟩⟩
    have e6 := cell_shut hK' d6
    have e7 := cell_shut hK' d7
    refine ⟨.tuple #[.int .i64 (-1), .int .i64 0], by simp [results, Tryd.f20, go_sem, e6, e7], by rw [Sun.next_none hp], Ext.shut ?_ (by omega) hK'⟩
    (repeat' (first | (with_reducible assumption) | (with_reducible exact Ext.refl _) | (with_reducible refine Ext.alloc ?_ _) | (with_reducible refine Ext.drew ?_) | (with_reducible refine Ext.drewN ?_ _) | (with_reducible refine Ext.setCell ?_ ?_ _) | (with_reducible refine Ext.trans ?_ (by assumption)) | go_size))
  case stop =>
    rintro D c pre W hD hpre ⟨rfl, p, k, rfl, hp, hl, hA6, hA7, hE⟩ hK
    gi_wp2
    refine ⟨by simp, .inl ⟨_, _, rfl, run_takeDeferred hK, ?_⟩⟩
    have e6 := cell_shut hK hA6
    have e7 := cell_shut hK hA7
    refine ⟨.tuple #[.int .i64 k, .int .i64 0], by simp [results, Tryd.f20, go_sem, e6, e7], by rw [Sun.next_some hpre hp hl], Ext.shut hE (by omega) hK⟩

end Go.Proofs.YtknlnmalaidaiaaDoor
