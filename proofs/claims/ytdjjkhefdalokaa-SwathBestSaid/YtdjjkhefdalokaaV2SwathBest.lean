/- Part 2 of what the proof of SwathBest stands on. -/
import Derived.Test.YtdjjkhefdalokaaV1SwathBest
import Derived.RangeFuncNested
import Derived.RangeFuncBound
import Derived.RangeFuncCalls
import Derived.RangeFuncLeaves
import Derived.RangeFuncBox
import Derived.Shelf.Abstract
import Derived.Shelf.RegionOpen
import Derived.OwnWalkIn
import Derived.TacticsInMore
import Derived.LoopNIn
import Derived.LoopIn
import Derived.Deep.RegionHeld3
import Derived.OwnWalk
import Derived.Maps.AppendAt
import Derived.OrdersIn
import Derived.TacticsIn
/- Contracts of package orbit: where a satellite is. -/
namespace Go.Proofs.Ytdjjkhefdalokaa
open Go.RowKit

set_option maxRecDepth 1000000 in
set_option maxHeartbeats 4000000 in
theorem column_c (o : Orb) (t : Int) (w : World) (hok : Orb.ok o = true) (h0 : -10 ≤ t) (h1 : t ≤ 1000010) : Calls Try.prog 92 #[.agg #[.int .i64 o.p, .int .i64 o.f, .int .i64 o.lo, .int .i64 o.hi, .int .i64 o.nd, .int .i64 o.tn, .int .i64 o.sl, .int .i64 t]] w fun e w' => e = .returned (.int .i64 (Orb.col o t)) ∧ Ext w w' := by
  have hq0 := Orb.ok_t.1 hok
  have hm := Orb.turn_bd hok t h0 h1
  refine calls_cw 14 [(0, .agg #[.int .i64 o.p, .int .i64 o.f, .int .i64 o.lo, .int .i64 o.hi, .int .i64 o.nd, .int .i64 o.tn, .int .i64 o.sl, .int .i64 t])] Try.func92 rfl Try.ntmps92 (by kernel_rfl) (by kernel_rfl) (fun L => ?_)
  have hE : Ext w w := Ext.refl w
  refine cw_seq ?_; refine cw_plain ?_
  refine pS (sn_new (us := #[.int .i64 o.p, .int .i64 o.f, .int .i64 o.lo, .int .i64 o.hi, .int .i64 o.nd, .int .i64 o.tn, .int .i64 o.sl, .int .i64 t]) (t := 96) (by kernel_rfl) ?_)
  intro O1 X2 hO hOs hb hbx
  have hzO1 := hO; have hyO1 := hOs; clear hO hOs
  have bO1_0 : BoxAt X2 O1 0 (.int .i64 o.p) := hbx 0 _ rfl
  have bO1_1 : BoxAt X2 O1 1 (.int .i64 o.f) := hbx 1 _ rfl
  have bO1_2 : BoxAt X2 O1 2 (.int .i64 o.lo) := hbx 2 _ rfl
  have bO1_3 : BoxAt X2 O1 3 (.int .i64 o.hi) := hbx 3 _ rfl
  have bO1_4 : BoxAt X2 O1 4 (.int .i64 o.nd) := hbx 4 _ rfl
  have bO1_5 : BoxAt X2 O1 5 (.int .i64 o.tn) := hbx 5 _ rfl
  have bO1_6 : BoxAt X2 O1 6 (.int .i64 o.sl) := hbx 6 _ rfl
  have bO1_7 : BoxAt X2 O1 7 (.int .i64 t) := hbx 7 _ rfl
  clear hbx; replace hE := hE.trans hb; have hs3 := hb.size; clear hb; have lt4 := bO1_0.lt
  refine pT (.int .i64 0) ?_
  refine pl_nil ?_; refine qw_then ?_; refine cw_seq ?_
  have hX5 : Ext X2 X2 := Ext.refl _
  refine cw_plain ?_
  refine pT (.pointer (some ⟨O1, 0, none⟩)) ?_
  refine pT (.pointer (some ⟨O1, 4, none⟩)) ?_
  refine pl_take (.int .i64 o.nd) rfl (by kernel_rfl) (by kernel_rfl) (by kernel_rfl) (ex_load rfl (by kernel_rfl) (ld3 (bO1_4.1))) ?_
  refine pT (.pointer (some ⟨O1, 0, none⟩)) ?_
  refine pT (.pointer (some ⟨O1, 5, none⟩)) ?_
  refine pl_take (.int .i64 o.tn) rfl (by kernel_rfl) (by kernel_rfl) (by kernel_rfl) (ex_load rfl (by kernel_rfl) (ld3 (bO1_5.1))) ?_
  refine pT (.pointer (some ⟨O1, 7, none⟩)) ?_
  refine pl_take (.int .i64 t) rfl (by kernel_rfl) (by kernel_rfl) (by kernel_rfl) (ex_load rfl (by kernel_rfl) (ld3 (bO1_7.1))) ?_
  refine pl_take (.int .i64 (o.tn * t : Int)) rfl (by kernel_rfl) (by kernel_rfl) (by kernel_rfl) (ev_wrap (by kernel_rfl) (by omega) (by omega)) ?_
  refine pl_take (.int .i64 (o.nd + (o.tn * t) : Int)) rfl (by kernel_rfl) (by kernel_rfl) (by kernel_rfl) (ev_wrap (by kernel_rfl) (by omega) (by omega)) ?_
  refine pS (sn_call (f := 104) (args := #[.int .i64 (o.nd + (o.tn * t) : Int), .int .i64 48000]) (by kernel_rfl) ((around_c (o.nd + (o.tn * t)) 48000 _ (by omega) (by omega)).mono ?_))
  rintro e w6 ⟨rfl, hb⟩
  replace hE := hE.trans hb; replace hX5 := hX5.trans hb; have hs7 := hb.size; clear hb
  refine ⟨_, rfl, ?_⟩
  refine pT (.int .i64 ((o.nd + (o.tn * t)) % 48000 : Int)) ?_
  refine pl_nil ?_; refine qw_then ?_
  refine cw_ret ?_
  refine qw_ret [.int .i64 ((o.nd + (o.tn * t)) % 48000 : Int)] rfl ⟨(by kernel_rfl), trivial⟩ ?_
  exact ⟨rfl, hE⟩
set_option maxRecDepth 1000000 in
set_option maxHeartbeats 4000000 in
theorem row_c (o : Orb) (t : Int) (w : World) (hok : Orb.ok o = true) (h0 : -10 ≤ t) (h1 : t ≤ 1000010) : Calls Try.prog 93 #[.agg #[.int .i64 o.p, .int .i64 o.f, .int .i64 o.lo, .int .i64 o.hi, .int .i64 o.nd, .int .i64 o.tn, .int .i64 o.sl, .int .i64 t]] w fun e w' => e = .returned (.int .i64 (Orb.row o t)) ∧ Ext w w' := by
  have hq0 := Orb.ok_t.1 hok
  have hu := Orb.ph_bd hok t
  have hv := Orb.up_bd hok t
  obtain ⟨hm0, hm1⟩ := Orb.mul_bd hok t
  have hm2 := Orb.mul_le hok
  have hr := Orb.row_bd hok t
  refine calls_cw 38 [(0, .agg #[.int .i64 o.p, .int .i64 o.f, .int .i64 o.lo, .int .i64 o.hi, .int .i64 o.nd, .int .i64 o.tn, .int .i64 o.sl, .int .i64 t])] Try.func93 rfl Try.ntmps93 (by kernel_rfl) (by kernel_rfl) (fun L => ?_)
  have hE : Ext w w := Ext.refl w
  refine cw_seq ?_; refine cw_plain ?_
  refine pS (sn_new (us := #[.int .i64 o.p, .int .i64 o.f, .int .i64 o.lo, .int .i64 o.hi, .int .i64 o.nd, .int .i64 o.tn, .int .i64 o.sl, .int .i64 t]) (t := 96) (by kernel_rfl) ?_)
  intro O1 X2 hO hOs hb hbx
  have hzO1 := hO; have hyO1 := hOs; clear hO hOs
  have bO1_0 : BoxAt X2 O1 0 (.int .i64 o.p) := hbx 0 _ rfl
  have bO1_1 : BoxAt X2 O1 1 (.int .i64 o.f) := hbx 1 _ rfl
  have bO1_2 : BoxAt X2 O1 2 (.int .i64 o.lo) := hbx 2 _ rfl
  have bO1_3 : BoxAt X2 O1 3 (.int .i64 o.hi) := hbx 3 _ rfl
  have bO1_4 : BoxAt X2 O1 4 (.int .i64 o.nd) := hbx 4 _ rfl
  have bO1_5 : BoxAt X2 O1 5 (.int .i64 o.tn) := hbx 5 _ rfl
  have bO1_6 : BoxAt X2 O1 6 (.int .i64 o.sl) := hbx 6 _ rfl
  have bO1_7 : BoxAt X2 O1 7 (.int .i64 t) := hbx 7 _ rfl
  clear hbx; replace hE := hE.trans hb; have hs3 := hb.size; clear hb; have lt4 := bO1_0.lt
  refine pT (.int .i64 0) ?_
  refine pl_nil ?_; refine qw_then ?_; refine cw_seq ?_
  have hX5 : Ext X2 X2 := Ext.refl _
  refine cw_plain ?_
  refine pT (.pointer (some ⟨O1, 7, none⟩)) ?_
  refine pl_take (.int .i64 t) rfl (by kernel_rfl) (by kernel_rfl) (by kernel_rfl) (ex_load rfl (by kernel_rfl) (ld3 (bO1_7.1))) ?_
  refine pT (.pointer (some ⟨O1, 0, none⟩)) ?_
  refine pT (.pointer (some ⟨O1, 1, none⟩)) ?_
  refine pl_take (.int .i64 o.f) rfl (by kernel_rfl) (by kernel_rfl) (by kernel_rfl) (ex_load rfl (by kernel_rfl) (ld3 (bO1_1.1))) ?_
  refine pl_take (.int .i64 (t + o.f : Int)) rfl (by kernel_rfl) (by kernel_rfl) (by kernel_rfl) (ev_wrap (by kernel_rfl) (by omega) (by omega)) ?_
  refine pT (.pointer (some ⟨O1, 0, none⟩)) ?_
  refine pT (.pointer (some ⟨O1, 0, none⟩)) ?_
  refine pl_take (.int .i64 o.p) rfl (by kernel_rfl) (by kernel_rfl) (by kernel_rfl) (ex_load rfl (by kernel_rfl) (ld3 (bO1_0.1))) ?_
  refine pS (sn_call (f := 104) (args := #[.int .i64 (t + o.f : Int), .int .i64 o.p]) (by kernel_rfl) ((around_c (t + o.f) o.p _ (by omega) (by omega)).mono ?_))
  rintro e w6 ⟨rfl, hb⟩
  replace hE := hE.trans hb; replace hX5 := hX5.trans hb; have hs7 := hb.size; clear hb
  refine ⟨_, rfl, ?_⟩
  refine pT (.int .i64 (Orb.ph o t : Int)) ?_
  refine pl_nil ?_; refine qw_then ?_; refine cw_seq ?_
  refine cw_draw [(some 14, [1], []), (some 15, [14], [0]), (some 16, [15], [1]), (some 17, [1], []), (some 18, [17], [3]), (some 19, [18], [4]), (some 20, [1], []), (some 21, [20], [6]), (some 22, [21], [7]), (some 23, [19, 22], [5, 8]), (some 24, [23], [9]), (some 25, [3], []), (some 26, [1], []), (some 27, [26], [12]), (some 28, [27], [13]), (some 29, [3], []), (some 30, [28, 29], [14, 15]), (some 31, [25, 30], [11, 16]), (some 32, [24, 31], [10, 17]), (some 33, [1], []), (some 34, [33], [19]), (some 35, [34], [20]), (some 36, [32, 35], [18, 21]), (some 37, [16, 36], [2, 22]), (some 2, [37], [23, 0, 1, 2, 3, 4, 5, 6, 7, 8, 9, 10, 11, 12, 13, 14, 15, 16, 17, 18, 19, 20, 21, 22, 23])] (fun w' => w'.cell? ⟨O1, 2, none⟩ = some (.int .i64 o.lo) ∧ w'.cell? ⟨O1, 3, none⟩ = some (.int .i64 o.hi) ∧ w'.cell? ⟨O1, 0, none⟩ = some (.int .i64 o.p)) (by kernel_rfl) (by kernel_rfl) (by kernel_rfl) (by kernel_rfl) ((calm_then calm_body)) (⟨(BoxAt.ext hX5 bO1_2).1, (BoxAt.ext hX5 bO1_3).1, (BoxAt.ext hX5 bO1_0).1⟩) (fun ops Q X8 hb hL hR hK => ?_)
  replace hE := hE.trans hb; replace hX5 := hX5.trans hb; have hs9 := hb.size; clear hb
  have hS10 := And.intro ((BoxAt.ext hX5 bO1_2).1) (And.intro ((BoxAt.ext hX5 bO1_3).1) ((BoxAt.ext hX5 bO1_0).1))
  refine wT 0 (.pointer (some ⟨O1, 0, none⟩)) hR (fun w _ => by kernel_rfl) (hS10) ?_
  refine wT 1 (.pointer (some ⟨O1, 2, none⟩)) hR (fun w _ => by kernel_rfl) (hS10) ?_
  refine wT 2 (.int .i64 o.lo) hR (fun w hS => ex_load rfl (by kernel_rfl) (ld3 (hS.1))) (hS10) ?_
  refine wT 3 (.pointer (some ⟨O1, 0, none⟩)) hR (fun w _ => by kernel_rfl) (hS10) ?_
  refine wT 4 (.pointer (some ⟨O1, 3, none⟩)) hR (fun w _ => by kernel_rfl) (hS10) ?_
  refine wT 5 (.int .i64 o.hi) hR (fun w hS => ex_load rfl (by kernel_rfl) (ld3 (hS.2.1))) (hS10) ?_
  refine wT 6 (.pointer (some ⟨O1, 0, none⟩)) hR (fun w _ => by kernel_rfl) (hS10) ?_
  refine wT 7 (.pointer (some ⟨O1, 2, none⟩)) hR (fun w _ => by kernel_rfl) (hS10) ?_
  refine wT 8 (.int .i64 o.lo) hR (fun w hS => ex_load rfl (by kernel_rfl) (ld3 (hS.1))) (hS10) ?_
  refine wT 9 (.int .i64 (o.hi - o.lo : Int)) hR (fun w _ => ev_wrap (by kernel_rfl) (by omega) (by omega)) (hS10) ?_
  refine wT 10 (.int .i64 ((o.hi - o.lo) * 2 : Int)) hR (fun w _ => ev_wrap (by kernel_rfl) (by omega) (by omega)) (hS10) ?_
  refine wT 11 (.int .i64 (Orb.ph o t : Int)) hR (fun w _ => by kernel_rfl) (hS10) ?_
  refine wT 12 (.pointer (some ⟨O1, 0, none⟩)) hR (fun w _ => by kernel_rfl) (hS10) ?_
  refine wT 13 (.pointer (some ⟨O1, 0, none⟩)) hR (fun w _ => by kernel_rfl) (hS10) ?_
  refine wT 14 (.int .i64 o.p) hR (fun w hS => ex_load rfl (by kernel_rfl) (ld3 (hS.2.2))) (hS10) ?_
  refine wT 15 (.int .i64 (Orb.ph o t : Int)) hR (fun w _ => by kernel_rfl) (hS10) ?_
  refine wT 16 (.int .i64 (o.p - (Orb.ph o t) : Int)) hR (fun w _ => ev_wrap (by kernel_rfl) (by omega) (by omega)) (hS10) ?_
  refine wT 17 (.int .i64 (Orb.up o t : Int)) hR (fun w _ => ev_int (show _ = Result.ok (Next.value (Value.int .i64 (if (o.p - Orb.ph o t) < (Orb.ph o t) then (o.p - Orb.ph o t) else (Orb.ph o t)))) _ from by kernel_rfl) (by unfold Orb.up; split <;> omega)) (hS10) ?_
  refine wT 18 (.int .i64 (((o.hi - o.lo) * 2) * (Orb.up o t) : Int)) hR (fun w _ => ev_wrap (by kernel_rfl) (by omega) (by omega)) (hS10) ?_
  refine wT 19 (.pointer (some ⟨O1, 0, none⟩)) hR (fun w _ => by kernel_rfl) (hS10) ?_
  refine wT 20 (.pointer (some ⟨O1, 0, none⟩)) hR (fun w _ => by kernel_rfl) (hS10) ?_
  refine wT 21 (.int .i64 o.p) hR (fun w hS => ex_load rfl (by kernel_rfl) (ld3 (hS.2.2))) (hS10) ?_
  refine wT 22 (.int .i64 ((o.hi - o.lo) * 2 * Orb.up o t / o.p : Int)) hR (fun w _ => ev_int (ex_bin (a := (o.hi - o.lo) * 2 * Orb.up o t) (b := o.p) rfl (by kernel_rfl) (by kernel_rfl) (bin_tdiv (by omega) (by omega) (by omega))) (Int.tdiv_eq_ediv_of_nonneg hm0)) (hS10) ?_
  refine wT 23 (.int .i64 (Orb.row o t : Int)) hR (fun w _ => ev_wrap (show _ = Result.ok (Next.value (Value.int .i64 (IntKind.i64.wrap (Orb.row o t)))) _ from by kernel_rfl) (by omega) (by omega)) (hS10) ?_
  refine wT 24 (.int .i64 (Orb.row o t : Int)) hR (fun w _ => by kernel_rfl) (hS10) ?_
  refine wd_end hL hR hK (by kernel_rfl) ?_
  refine qw_then ?_
  refine cw_clean [2] (ws' := [(2, .int .i64 (Orb.row o t : Int))]) (by kernel_rfl) (fun L => ?_)
  refine cw_ret ?_
  refine qw_ret [.int .i64 (Orb.row o t : Int)] rfl ⟨(by kernel_rfl), trivial⟩ ?_
  exact ⟨rfl, hE⟩
set_option maxRecDepth 1000000 in
set_option maxHeartbeats 4000000 in
theorem cell_c (o : Orb) (t : Int) (w : World) (hok : Orb.ok o = true) (h0 : -10 ≤ t) (h1 : t ≤ 1000010) : Calls Try.prog 64 #[.agg #[.int .i64 o.p, .int .i64 o.f, .int .i64 o.lo, .int .i64 o.hi, .int .i64 o.nd, .int .i64 o.tn, .int .i64 o.sl, .int .i64 t]] w fun e w' => e = .returned (.agg #[.int .i64 ((Orb.cx o t : Nat) : Int), .int .i64 ((Orb.cy o t : Nat) : Int)]) ∧ Ext w w' := by
  have hc := Orb.col_bd (o := o) t
  have hr := Orb.row_bd hok t
  refine calls_cw 10 [(0, .agg #[.int .i64 o.p, .int .i64 o.f, .int .i64 o.lo, .int .i64 o.hi, .int .i64 o.nd, .int .i64 o.tn, .int .i64 o.sl, .int .i64 t])] Try.func64 rfl Try.ntmps64 (by kernel_rfl) (by kernel_rfl) (fun L => ?_)
  have hE : Ext w w := Ext.refl w
  refine cw_seq ?_; refine cw_plain ?_
  refine pS (sn_new (us := #[.int .i64 o.p, .int .i64 o.f, .int .i64 o.lo, .int .i64 o.hi, .int .i64 o.nd, .int .i64 o.tn, .int .i64 o.sl, .int .i64 t]) (t := 96) (by kernel_rfl) ?_)
  intro O1 X2 hO hOs hb hbx
  have hzO1 := hO; have hyO1 := hOs; clear hO hOs
  have bO1_0 : BoxAt X2 O1 0 (.int .i64 o.p) := hbx 0 _ rfl
  have bO1_1 : BoxAt X2 O1 1 (.int .i64 o.f) := hbx 1 _ rfl
  have bO1_2 : BoxAt X2 O1 2 (.int .i64 o.lo) := hbx 2 _ rfl
  have bO1_3 : BoxAt X2 O1 3 (.int .i64 o.hi) := hbx 3 _ rfl
  have bO1_4 : BoxAt X2 O1 4 (.int .i64 o.nd) := hbx 4 _ rfl
  have bO1_5 : BoxAt X2 O1 5 (.int .i64 o.tn) := hbx 5 _ rfl
  have bO1_6 : BoxAt X2 O1 6 (.int .i64 o.sl) := hbx 6 _ rfl
  have bO1_7 : BoxAt X2 O1 7 (.int .i64 t) := hbx 7 _ rfl
  clear hbx; replace hE := hE.trans hb; have hs3 := hb.size; clear hb; have lt4 := bO1_0.lt
  refine pS (sn_new (us := #[.int .i64 0, .int .i64 0]) (t := 57) (by kernel_rfl) ?_)
  intro O5 X6 hO hOs hb hbx
  have hzO5 := hO; have hyO5 := hOs; clear hO hOs
  have bO5_0 : BoxAt X6 O5 0 (.int .i64 0) := hbx 0 _ rfl
  have bO5_1 : BoxAt X6 O5 1 (.int .i64 0) := hbx 1 _ rfl
  clear hbx; replace hE := hE.trans hb; replace bO1_0 := BoxAt.ext hb bO1_0; replace bO1_1 := BoxAt.ext hb bO1_1; replace bO1_2 := BoxAt.ext hb bO1_2; replace bO1_3 := BoxAt.ext hb bO1_3; replace bO1_4 := BoxAt.ext hb bO1_4; replace bO1_5 := BoxAt.ext hb bO1_5; replace bO1_6 := BoxAt.ext hb bO1_6; replace bO1_7 := BoxAt.ext hb bO1_7; have hs7 := hb.size; clear hb; have lt8 := bO5_0.lt; refine pl_nil ?_; refine qw_then ?_; refine cw_seq ?_
  have hX9 : Ext X6 X6 := Ext.refl _
  refine cw_draw [(some 3, [1], []), (some 4, [3], [0]), (some 5, [4], [1]), (some 6, [1], []), (some 7, [6], [3, 1]), (some 8, [7], [4]), (some 9, [5, 8], [2, 5]), (none, [2, 9], [6, 4, 0, 1, 2, 3, 4, 5, 6])] (fun w' => w'.cell? ⟨O1, 0, none⟩ = some (.int .i64 o.p) ∧ w'.cell? ⟨O1, 1, none⟩ = some (.int .i64 o.f) ∧ w'.cell? ⟨O1, 2, none⟩ = some (.int .i64 o.lo) ∧ w'.cell? ⟨O1, 3, none⟩ = some (.int .i64 o.hi) ∧ w'.cell? ⟨O1, 4, none⟩ = some (.int .i64 o.nd) ∧ w'.cell? ⟨O1, 5, none⟩ = some (.int .i64 o.tn) ∧ w'.cell? ⟨O1, 6, none⟩ = some (.int .i64 o.sl) ∧ w'.cell? ⟨O1, 7, none⟩ = some (.int .i64 t)) (by kernel_rfl) (by kernel_rfl) (by kernel_rfl) (by kernel_rfl) ((calm_then calm_body)) (⟨bO1_0.1, bO1_1.1, bO1_2.1, bO1_3.1, bO1_4.1, bO1_5.1, bO1_6.1, bO1_7.1⟩) (fun ops Q X10 hb hL hR hK => ?_)
  replace hE := hE.trans hb; replace hX9 := hX9.trans hb; have hs11 := hb.size; clear hb
  have hS12 := And.intro ((BoxAt.ext hX9 bO1_0).1) (And.intro ((BoxAt.ext hX9 bO1_1).1) (And.intro ((BoxAt.ext hX9 bO1_2).1) (And.intro ((BoxAt.ext hX9 bO1_3).1) (And.intro ((BoxAt.ext hX9 bO1_4).1) (And.intro ((BoxAt.ext hX9 bO1_5).1) (And.intro ((BoxAt.ext hX9 bO1_6).1) ((BoxAt.ext hX9 bO1_7).1)))))))
  refine wT 0 (.agg #[.int .i64 o.p, .int .i64 o.f, .int .i64 o.lo, .int .i64 o.hi, .int .i64 o.nd, .int .i64 o.tn, .int .i64 o.sl, .int .i64 t]) hR (fun w hS => ex_load rfl (by kernel_rfl) (ld96 (hS.1) (hS.2.1) (hS.2.2.1) (hS.2.2.2.1) (hS.2.2.2.2.1) (hS.2.2.2.2.2.1) (hS.2.2.2.2.2.2.1) (hS.2.2.2.2.2.2.2))) (hS12) ?_
  refine wT 3 (.agg #[.int .i64 o.p, .int .i64 o.f, .int .i64 o.lo, .int .i64 o.hi, .int .i64 o.nd, .int .i64 o.tn, .int .i64 o.sl, .int .i64 t]) hR (fun w hS => ex_load rfl (by kernel_rfl) (ld96 (hS.1) (hS.2.1) (hS.2.2.1) (hS.2.2.2.1) (hS.2.2.2.2.1) (hS.2.2.2.2.2.1) (hS.2.2.2.2.2.2.1) (hS.2.2.2.2.2.2.2))) (hS12) ?_
  refine wd_step 1 hR rfl (by kernel_rfl) (by kernel_rfl) (by kernel_rfl) (sn_call (f := 92) (args := #[.agg #[.int .i64 o.p, .int .i64 o.f, .int .i64 o.lo, .int .i64 o.hi, .int .i64 o.nd, .int .i64 o.tn, .int .i64 o.sl, .int .i64 t]]) (by kernel_rfl) ((column_c o t _ hok (by omega) (by omega)).mono ?_))
  rintro e w13 ⟨rfl, hb⟩
  replace hE := hE.trans hb; replace hX9 := hX9.trans hb; have hs14 := hb.size; clear hb
  have hS15 := And.intro ((BoxAt.ext hX9 bO1_0).1) (And.intro ((BoxAt.ext hX9 bO1_1).1) (And.intro ((BoxAt.ext hX9 bO1_2).1) (And.intro ((BoxAt.ext hX9 bO1_3).1) (And.intro ((BoxAt.ext hX9 bO1_4).1) (And.intro ((BoxAt.ext hX9 bO1_5).1) (And.intro ((BoxAt.ext hX9 bO1_6).1) ((BoxAt.ext hX9 bO1_7).1)))))))
  refine ⟨_, rfl, hS15, ?_⟩
  refine wT 2 (.int .i64 (((Orb.cx o t : Nat) : Int) : Int)) hR (fun w _ => ev_int (ex_bin (a := Orb.col o t) (b := 1000) rfl (by kernel_rfl) (by kernel_rfl) (bin_tdiv (by omega) (by omega) (by omega))) ((Int.tdiv_eq_ediv_of_nonneg hc.1).trans (Orb.cx_z o t))) (hS15) ?_
  refine wd_step 4 hR rfl (by kernel_rfl) (by kernel_rfl) (by kernel_rfl) (sn_call (f := 93) (args := #[.agg #[.int .i64 o.p, .int .i64 o.f, .int .i64 o.lo, .int .i64 o.hi, .int .i64 o.nd, .int .i64 o.tn, .int .i64 o.sl, .int .i64 t]]) (by kernel_rfl) ((row_c o t _ hok (by omega) (by omega)).mono ?_))
  rintro e w16 ⟨rfl, hb⟩
  replace hE := hE.trans hb; replace hX9 := hX9.trans hb; have hs17 := hb.size; clear hb
  have hS18 := And.intro ((BoxAt.ext hX9 bO1_0).1) (And.intro ((BoxAt.ext hX9 bO1_1).1) (And.intro ((BoxAt.ext hX9 bO1_2).1) (And.intro ((BoxAt.ext hX9 bO1_3).1) (And.intro ((BoxAt.ext hX9 bO1_4).1) (And.intro ((BoxAt.ext hX9 bO1_5).1) (And.intro ((BoxAt.ext hX9 bO1_6).1) ((BoxAt.ext hX9 bO1_7).1)))))))
  refine ⟨_, rfl, hS18, ?_⟩
  refine wT 5 (.int .i64 (((Orb.cy o t : Nat) : Int) : Int)) hR (fun w _ => ev_int (ex_bin (a := Orb.row o t) (b := 1000) rfl (by kernel_rfl) (by kernel_rfl) (bin_tdiv (by omega) (by omega) (by omega))) ((Int.tdiv_eq_ediv_of_nonneg hr.1).trans (Orb.cy_z hok t))) (hS18) ?_
  refine wT 6 (.agg #[.int .i64 (((Orb.cx o t : Nat) : Int) : Int), .int .i64 (((Orb.cy o t : Nat) : Int) : Int)]) hR (fun w _ => by kernel_rfl) (hS18) ?_
  have bO1_t20 := (BoxAt.ext hX9 bO1_0)
  have bO1_t21 := (BoxAt.ext hX9 bO1_1)
  have bO1_t22 := (BoxAt.ext hX9 bO1_2)
  have bO1_t23 := (BoxAt.ext hX9 bO1_3)
  have bO1_t24 := (BoxAt.ext hX9 bO1_4)
  have bO1_t25 := (BoxAt.ext hX9 bO1_5)
  have bO1_t26 := (BoxAt.ext hX9 bO1_6)
  have bO1_t27 := (BoxAt.ext hX9 bO1_7)
  have bO5_t28 := (BoxAt.ext hX9 bO5_0)
  have bO5_t29 := (BoxAt.ext hX9 bO5_1)
  refine wd_step 7 hR rfl (by kernel_rfl) (by kernel_rfl) (by kernel_rfl) (sn_set2 (O := O5) (j := 0) (v := .int .i64 (((Orb.cx o t : Nat) : Int) : Int)) (v' := .int .i64 (((Orb.cy o t : Nat) : Int) : Int)) (ex_store (p := .pointer (some ⟨O5, 0, none⟩)) (v := .agg #[.int .i64 (((Orb.cx o t : Nat) : Int) : Int), .int .i64 (((Orb.cy o t : Nat) : Int) : Int)]) rfl (by kernel_rfl) (by kernel_rfl) (st57 bO5_t28.1 bO5_t28.2 bO5_t29.1 bO5_t29.2)) bO5_t28 bO5_t29 ?_)
  intro X19 ho hv0 hv1 hk
  replace hE := ho.ext hE (T hs3 (Nat.le_of_eq hzO5)); replace bO1_t20 := ho.box (Nat.ne_of_gt (Nat.lt_of_lt_of_le lt4 (Nat.le_of_eq hzO5))) bO1_t20; replace bO1_t21 := ho.box (Nat.ne_of_gt (Nat.lt_of_lt_of_le lt4 (Nat.le_of_eq hzO5))) bO1_t21; replace bO1_t22 := ho.box (Nat.ne_of_gt (Nat.lt_of_lt_of_le lt4 (Nat.le_of_eq hzO5))) bO1_t22; replace bO1_t23 := ho.box (Nat.ne_of_gt (Nat.lt_of_lt_of_le lt4 (Nat.le_of_eq hzO5))) bO1_t23; replace bO1_t24 := ho.box (Nat.ne_of_gt (Nat.lt_of_lt_of_le lt4 (Nat.le_of_eq hzO5))) bO1_t24; replace bO1_t25 := ho.box (Nat.ne_of_gt (Nat.lt_of_lt_of_le lt4 (Nat.le_of_eq hzO5))) bO1_t25; replace bO1_t26 := ho.box (Nat.ne_of_gt (Nat.lt_of_lt_of_le lt4 (Nat.le_of_eq hzO5))) bO1_t26; replace bO1_t27 := ho.box (Nat.ne_of_gt (Nat.lt_of_lt_of_le lt4 (Nat.le_of_eq hzO5))) bO1_t27
  have hs30 : w16.heap.size ≤ X19.heap.size := Nat.le_of_eq ho.size.symm
  clear ho hk bO5_t28 bO5_t29
  have bO5_t28 := hv0; clear hv0
  have bO5_t29 := hv1; clear hv1
  have hS31 := And.intro (bO1_t20.1) (And.intro (bO1_t21.1) (And.intro (bO1_t22.1) (And.intro (bO1_t23.1) (And.intro (bO1_t24.1) (And.intro (bO1_t25.1) (And.intro (bO1_t26.1) (bO1_t27.1)))))))
  refine ⟨hS31, ?_⟩
  refine wd_end hL hR hK (by kernel_rfl) ?_
  refine qw_then ?_
  refine cw_ret ?_
  refine qw_ret [.agg #[.int .i64 (((Orb.cx o t : Nat) : Int) : Int), .int .i64 (((Orb.cy o t : Nat) : Int) : Int)]] rfl ⟨⟨_, by kernel_rfl, res_ld (ld57 (bO5_t28.1) (bO5_t29.1))⟩, trivial⟩ ?_
  exact ⟨rfl, hE⟩
set_option maxRecDepth 1000000 in
set_option maxHeartbeats 4000000 in
theorem at_y (o : Orb) (t d : Int) (w : World) (hat : Orb.atB o t d = true) : Calls Try.prog 63 #[.agg #[.int .i64 o.p, .int .i64 o.f, .int .i64 o.lo, .int .i64 o.hi, .int .i64 o.nd, .int .i64 o.tn, .int .i64 o.sl], .int .i64 t, .int .i64 d] w fun e w' => e = .returned (.tuple #[.agg #[.int .i64 o.p, .int .i64 o.f, .int .i64 o.lo, .int .i64 o.hi, .int .i64 o.nd, .int .i64 o.tn, .int .i64 o.sl, .int .i64 (t - d)], .bool true]) ∧ Ext w w' := by
  replace hat : (Globe.inB t 0 1000000 = true ∧ Globe.inB d (-10) 10 = true) ∧ Orb.ok o = true := by simpa [Orb.atB] using hat
  have h1 := Globe.inB_t.1 hat.1.1
  have h2 := Globe.inB_t.1 hat.1.2
  refine calls_cw 25 [(2, .int .i64 d), (1, .int .i64 t), (0, .agg #[.int .i64 o.p, .int .i64 o.f, .int .i64 o.lo, .int .i64 o.hi, .int .i64 o.nd, .int .i64 o.tn, .int .i64 o.sl])] Try.func63 rfl Try.ntmps63 (by kernel_rfl) (by kernel_rfl) (fun L => ?_)
  have hE : Ext w w := Ext.refl w
  refine cw_seq ?_; refine cw_plain ?_
  refine pS (sn_new (us := #[.int .i64 o.p, .int .i64 o.f, .int .i64 o.lo, .int .i64 o.hi, .int .i64 o.nd, .int .i64 o.tn, .int .i64 o.sl]) (t := 24) (by kernel_rfl) ?_)
  intro O1 X2 hO hOs hb hbx
  have hzO1 := hO; have hyO1 := hOs; clear hO hOs
  have bO1_0 : BoxAt X2 O1 0 (.int .i64 o.p) := hbx 0 _ rfl
  have bO1_1 : BoxAt X2 O1 1 (.int .i64 o.f) := hbx 1 _ rfl
  have bO1_2 : BoxAt X2 O1 2 (.int .i64 o.lo) := hbx 2 _ rfl
  have bO1_3 : BoxAt X2 O1 3 (.int .i64 o.hi) := hbx 3 _ rfl
  have bO1_4 : BoxAt X2 O1 4 (.int .i64 o.nd) := hbx 4 _ rfl
  have bO1_5 : BoxAt X2 O1 5 (.int .i64 o.tn) := hbx 5 _ rfl
  have bO1_6 : BoxAt X2 O1 6 (.int .i64 o.sl) := hbx 6 _ rfl
  clear hbx; replace hE := hE.trans hb; have hs3 := hb.size; clear hb; have lt4 := bO1_0.lt
  refine pS (sn_new (us := #[.int .i64 0, .int .i64 0, .int .i64 0, .int .i64 0, .int .i64 0, .int .i64 0, .int .i64 0, .int .i64 0]) (t := 96) (by kernel_rfl) ?_)
  intro O5 X6 hO hOs hb hbx
  have hzO5 := hO; have hyO5 := hOs; clear hO hOs
  have bO5_0 : BoxAt X6 O5 0 (.int .i64 0) := hbx 0 _ rfl
  have bO5_1 : BoxAt X6 O5 1 (.int .i64 0) := hbx 1 _ rfl
  have bO5_2 : BoxAt X6 O5 2 (.int .i64 0) := hbx 2 _ rfl
  have bO5_3 : BoxAt X6 O5 3 (.int .i64 0) := hbx 3 _ rfl
  have bO5_4 : BoxAt X6 O5 4 (.int .i64 0) := hbx 4 _ rfl
  have bO5_5 : BoxAt X6 O5 5 (.int .i64 0) := hbx 5 _ rfl
  have bO5_6 : BoxAt X6 O5 6 (.int .i64 0) := hbx 6 _ rfl
  have bO5_7 : BoxAt X6 O5 7 (.int .i64 0) := hbx 7 _ rfl
  clear hbx; replace hE := hE.trans hb; replace bO1_0 := BoxAt.ext hb bO1_0; replace bO1_1 := BoxAt.ext hb bO1_1; replace bO1_2 := BoxAt.ext hb bO1_2; replace bO1_3 := BoxAt.ext hb bO1_3; replace bO1_4 := BoxAt.ext hb bO1_4; replace bO1_5 := BoxAt.ext hb bO1_5; replace bO1_6 := BoxAt.ext hb bO1_6; have hs7 := hb.size; clear hb; have lt8 := bO5_0.lt
  refine pT (.bool false) ?_
  refine pl_nil ?_; refine qw_then ?_; refine cw_seq ?_
  have hX9 : Ext X6 X6 := Ext.refl _
  refine cw_plain ?_
  refine pT (.int .i64 t) ?_
  refine pS (sn_call (f := 87) (args := #[.int .i64 t, .int .i64 0, .int .i64 1000000]) (by kernel_rfl) ((orbit_in_r (r := true) t 0 1000000 _ (hat.1.1)).mono ?_))
  rintro e w10 ⟨rfl, hb⟩
  replace hE := hE.trans hb; replace hX9 := hX9.trans hb; have hs11 := hb.size; clear hb
  refine ⟨_, rfl, ?_⟩
  refine pT (.bool true) ?_
  refine pT (.int .i64 d) ?_
  refine pS (sn_call (f := 87) (args := #[.int .i64 d, .int .i64 (-10 : Int), .int .i64 10]) (by kernel_rfl) ((orbit_in_r (r := true) d (-10) 10 _ (hat.1.2)).mono ?_))
  rintro e w12 ⟨rfl, hb⟩
  replace hE := hE.trans hb; replace hX9 := hX9.trans hb; have hs13 := hb.size; clear hb
  refine ⟨_, rfl, ?_⟩
  refine pT (.bool true) ?_
  refine pT (.bool true) ?_
  refine pl_take (.agg #[.int .i64 o.p, .int .i64 o.f, .int .i64 o.lo, .int .i64 o.hi, .int .i64 o.nd, .int .i64 o.tn, .int .i64 o.sl]) rfl (by kernel_rfl) (by kernel_rfl) (by kernel_rfl) (ex_load rfl (by kernel_rfl) (ld24 ((BoxAt.ext hX9 bO1_0).1) ((BoxAt.ext hX9 bO1_1).1) ((BoxAt.ext hX9 bO1_2).1) ((BoxAt.ext hX9 bO1_3).1) ((BoxAt.ext hX9 bO1_4).1) ((BoxAt.ext hX9 bO1_5).1) ((BoxAt.ext hX9 bO1_6).1))) ?_
  refine pS (sn_call (f := 56) (args := #[.agg #[.int .i64 o.p, .int .i64 o.f, .int .i64 o.lo, .int .i64 o.hi, .int .i64 o.nd, .int .i64 o.tn, .int .i64 o.sl]]) (by kernel_rfl) ((oValid_r (r := true) _ (hat.2)).mono ?_))
  rintro e w14 ⟨rfl, hb⟩
  replace hE := hE.trans hb; replace hX9 := hX9.trans hb; have hs15 := hb.size; clear hb
  refine ⟨_, rfl, ?_⟩
  refine pT (.bool true) ?_
  refine pT (.bool true) ?_
  refine pl_nil ?_; refine qw_then ?_
  refine cw_clean [1, 2, 3, 6, 8] (ws' := [(1, .int .i64 t), (2, .int .i64 d), (3, .pointer (some ⟨O1, 0, none⟩)), (6, .pointer (some ⟨O5, 0, none⟩)), (8, .bool true)]) (by kernel_rfl) (fun L => ?_)
  refine cw_seq ?_; refine cw_plain ?_
  refine pl_take (.agg #[.int .i64 o.p, .int .i64 o.f, .int .i64 o.lo, .int .i64 o.hi, .int .i64 o.nd, .int .i64 o.tn, .int .i64 o.sl]) rfl (by kernel_rfl) (by kernel_rfl) (by kernel_rfl) (ex_load rfl (by kernel_rfl) (ld24 ((BoxAt.ext hX9 bO1_0).1) ((BoxAt.ext hX9 bO1_1).1) ((BoxAt.ext hX9 bO1_2).1) ((BoxAt.ext hX9 bO1_3).1) ((BoxAt.ext hX9 bO1_4).1) ((BoxAt.ext hX9 bO1_5).1) ((BoxAt.ext hX9 bO1_6).1))) ?_
  refine pT (.int .i64 t) ?_
  refine pT (.int .i64 d) ?_
  refine pl_take (.int .i64 (t - d : Int)) rfl (by kernel_rfl) (by kernel_rfl) (by kernel_rfl) (ev_wrap (by kernel_rfl) (by omega) (by omega)) ?_
  refine pT (.agg #[.int .i64 o.p, .int .i64 o.f, .int .i64 o.lo, .int .i64 o.hi, .int .i64 o.nd, .int .i64 o.tn, .int .i64 o.sl, .int .i64 (t - d : Int)]) ?_
  refine pT (.bool true) ?_
  have bO1_t17 := (BoxAt.ext hX9 bO1_0)
  have bO1_t18 := (BoxAt.ext hX9 bO1_1)
  have bO1_t19 := (BoxAt.ext hX9 bO1_2)
  have bO1_t20 := (BoxAt.ext hX9 bO1_3)
  have bO1_t21 := (BoxAt.ext hX9 bO1_4)
  have bO1_t22 := (BoxAt.ext hX9 bO1_5)
  have bO1_t23 := (BoxAt.ext hX9 bO1_6)
  have bO5_t24 := (BoxAt.ext hX9 bO5_0)
  have bO5_t25 := (BoxAt.ext hX9 bO5_1)
  have bO5_t26 := (BoxAt.ext hX9 bO5_2)
  have bO5_t27 := (BoxAt.ext hX9 bO5_3)
  have bO5_t28 := (BoxAt.ext hX9 bO5_4)
  have bO5_t29 := (BoxAt.ext hX9 bO5_5)
  have bO5_t30 := (BoxAt.ext hX9 bO5_6)
  have bO5_t31 := (BoxAt.ext hX9 bO5_7)
  refine pl_put rfl (by kernel_rfl) (by kernel_rfl) (sn_setK8 (O := O5) (j := 0) (v0 := .int .i64 o.p) (v1 := .int .i64 o.f) (v2 := .int .i64 o.lo) (v3 := .int .i64 o.hi) (v4 := .int .i64 o.nd) (v5 := .int .i64 o.tn) (v6 := .int .i64 o.sl) (v7 := .int .i64 (t - d : Int)) (ex_store (p := .pointer (some ⟨O5, 0, none⟩)) (v := .agg #[.int .i64 o.p, .int .i64 o.f, .int .i64 o.lo, .int .i64 o.hi, .int .i64 o.nd, .int .i64 o.tn, .int .i64 o.sl, .int .i64 (t - d : Int)]) rfl (by kernel_rfl) (by kernel_rfl) (st96 bO5_t24.1 bO5_t24.2 bO5_t25.1 bO5_t25.2 bO5_t26.1 bO5_t26.2 bO5_t27.1 bO5_t27.2 bO5_t28.1 bO5_t28.2 bO5_t29.1 bO5_t29.2 bO5_t30.1 bO5_t30.2 bO5_t31.1 bO5_t31.2)) bO5_t24 bO5_t25 bO5_t26 bO5_t27 bO5_t28 bO5_t29 bO5_t30 bO5_t31 ?_)
  intro X16 ho hv0 hv1 hv2 hv3 hv4 hv5 hv6 hv7 hk
  replace hE := ho.ext hE (T hs3 (Nat.le_of_eq hzO5)); replace bO1_t17 := ho.box (Nat.ne_of_gt (Nat.lt_of_lt_of_le lt4 (Nat.le_of_eq hzO5))) bO1_t17; replace bO1_t18 := ho.box (Nat.ne_of_gt (Nat.lt_of_lt_of_le lt4 (Nat.le_of_eq hzO5))) bO1_t18; replace bO1_t19 := ho.box (Nat.ne_of_gt (Nat.lt_of_lt_of_le lt4 (Nat.le_of_eq hzO5))) bO1_t19; replace bO1_t20 := ho.box (Nat.ne_of_gt (Nat.lt_of_lt_of_le lt4 (Nat.le_of_eq hzO5))) bO1_t20; replace bO1_t21 := ho.box (Nat.ne_of_gt (Nat.lt_of_lt_of_le lt4 (Nat.le_of_eq hzO5))) bO1_t21; replace bO1_t22 := ho.box (Nat.ne_of_gt (Nat.lt_of_lt_of_le lt4 (Nat.le_of_eq hzO5))) bO1_t22; replace bO1_t23 := ho.box (Nat.ne_of_gt (Nat.lt_of_lt_of_le lt4 (Nat.le_of_eq hzO5))) bO1_t23
  have hs32 : w14.heap.size ≤ X16.heap.size := Nat.le_of_eq ho.size.symm
  clear ho hk bO5_t24 bO5_t25 bO5_t26 bO5_t27 bO5_t28 bO5_t29 bO5_t30 bO5_t31
  have bO5_t24 := hv0; clear hv0
  have bO5_t25 := hv1; clear hv1
  have bO5_t26 := hv2; clear hv2
  have bO5_t27 := hv3; clear hv3
  have bO5_t28 := hv4; clear hv4
  have bO5_t29 := hv5; clear hv5
  have bO5_t30 := hv6; clear hv6
  have bO5_t31 := hv7; clear hv7
  refine pT (.bool true) ?_
  refine pl_nil ?_; refine qw_then ?_
  refine cw_ret ?_
  refine qw_ret [.agg #[.int .i64 o.p, .int .i64 o.f, .int .i64 o.lo, .int .i64 o.hi, .int .i64 o.nd, .int .i64 o.tn, .int .i64 o.sl, .int .i64 (t - d : Int)], .bool true] rfl ⟨⟨_, by kernel_rfl, res_ld (ld96 (bO5_t24.1) (bO5_t25.1) (bO5_t26.1) (bO5_t27.1) (bO5_t28.1) (bO5_t29.1) (bO5_t30.1) (bO5_t31.1))⟩, (by kernel_rfl), trivial⟩ ?_
  exact ⟨rfl, hE⟩
set_option maxRecDepth 1000000 in
set_option maxHeartbeats 4000000 in
theorem at_n (o : Orb) (t d : Int) (w : World) (hat : Orb.atB o t d = false) : Calls Try.prog 63 #[.agg #[.int .i64 o.p, .int .i64 o.f, .int .i64 o.lo, .int .i64 o.hi, .int .i64 o.nd, .int .i64 o.tn, .int .i64 o.sl], .int .i64 t, .int .i64 d] w fun e w' => ∃ m : Int, e = .returned (.tuple #[.agg #[.int .i64 o.p, .int .i64 o.f, .int .i64 o.lo, .int .i64 o.hi, .int .i64 o.nd, .int .i64 o.tn, .int .i64 o.sl, .int .i64 m], .bool false]) ∧ Ext w w' := by
  refine calls_cw 25 [(2, .int .i64 d), (1, .int .i64 t), (0, .agg #[.int .i64 o.p, .int .i64 o.f, .int .i64 o.lo, .int .i64 o.hi, .int .i64 o.nd, .int .i64 o.tn, .int .i64 o.sl])] Try.func63 rfl Try.ntmps63 (by kernel_rfl) (by kernel_rfl) (fun L => ?_)
  have hE : Ext w w := Ext.refl w
  refine cw_seq ?_; refine cw_plain ?_
  refine pS (sn_new (us := #[.int .i64 o.p, .int .i64 o.f, .int .i64 o.lo, .int .i64 o.hi, .int .i64 o.nd, .int .i64 o.tn, .int .i64 o.sl]) (t := 24) (by kernel_rfl) ?_)
  intro O1 X2 hO hOs hb hbx
  have hzO1 := hO; have hyO1 := hOs; clear hO hOs
  have bO1_0 : BoxAt X2 O1 0 (.int .i64 o.p) := hbx 0 _ rfl
  have bO1_1 : BoxAt X2 O1 1 (.int .i64 o.f) := hbx 1 _ rfl
  have bO1_2 : BoxAt X2 O1 2 (.int .i64 o.lo) := hbx 2 _ rfl
  have bO1_3 : BoxAt X2 O1 3 (.int .i64 o.hi) := hbx 3 _ rfl
  have bO1_4 : BoxAt X2 O1 4 (.int .i64 o.nd) := hbx 4 _ rfl
  have bO1_5 : BoxAt X2 O1 5 (.int .i64 o.tn) := hbx 5 _ rfl
  have bO1_6 : BoxAt X2 O1 6 (.int .i64 o.sl) := hbx 6 _ rfl
  clear hbx; replace hE := hE.trans hb; have hs3 := hb.size; clear hb; have lt4 := bO1_0.lt
  refine pS (sn_new (us := #[.int .i64 0, .int .i64 0, .int .i64 0, .int .i64 0, .int .i64 0, .int .i64 0, .int .i64 0, .int .i64 0]) (t := 96) (by kernel_rfl) ?_)
  intro O5 X6 hO hOs hb hbx
  have hzO5 := hO; have hyO5 := hOs; clear hO hOs
  have bO5_0 : BoxAt X6 O5 0 (.int .i64 0) := hbx 0 _ rfl
  have bO5_1 : BoxAt X6 O5 1 (.int .i64 0) := hbx 1 _ rfl
  have bO5_2 : BoxAt X6 O5 2 (.int .i64 0) := hbx 2 _ rfl
  have bO5_3 : BoxAt X6 O5 3 (.int .i64 0) := hbx 3 _ rfl
  have bO5_4 : BoxAt X6 O5 4 (.int .i64 0) := hbx 4 _ rfl
  have bO5_5 : BoxAt X6 O5 5 (.int .i64 0) := hbx 5 _ rfl
  have bO5_6 : BoxAt X6 O5 6 (.int .i64 0) := hbx 6 _ rfl
  have bO5_7 : BoxAt X6 O5 7 (.int .i64 0) := hbx 7 _ rfl
  clear hbx; replace hE := hE.trans hb; replace bO1_0 := BoxAt.ext hb bO1_0; replace bO1_1 := BoxAt.ext hb bO1_1; replace bO1_2 := BoxAt.ext hb bO1_2; replace bO1_3 := BoxAt.ext hb bO1_3; replace bO1_4 := BoxAt.ext hb bO1_4; replace bO1_5 := BoxAt.ext hb bO1_5; replace bO1_6 := BoxAt.ext hb bO1_6; have hs7 := hb.size; clear hb; have lt8 := bO5_0.lt
  refine pT (.bool false) ?_
  refine pl_nil ?_; refine qw_then ?_; refine cw_seq ?_
  have hX9 : Ext X6 X6 := Ext.refl _
  refine cw_plain ?_
  refine pT (.int .i64 t) ?_
  rcases Bool.eq_false_or_eq_true (Globe.inB t 0 1000000) with hb10 | hb10
  ·
    have hq11 := Globe.inB_t.1 hb10
    refine pS (sn_call (f := 87) (args := #[.int .i64 t, .int .i64 0, .int .i64 1000000]) (by kernel_rfl) ((orbit_in_r (r := true) t 0 1000000 _ (hb10)).mono ?_))
    rintro e w12 ⟨rfl, hb⟩
    replace hE := hE.trans hb; replace hX9 := hX9.trans hb; have hs13 := hb.size; clear hb
    refine ⟨_, rfl, ?_⟩
    refine pT (.bool true) ?_
    refine pT (.int .i64 d) ?_
    rcases Bool.eq_false_or_eq_true (Globe.inB d (-10) 10) with hb14 | hb14
    ·
      have hq15 := Globe.inB_t.1 hb14
      refine pS (sn_call (f := 87) (args := #[.int .i64 d, .int .i64 (-10 : Int), .int .i64 10]) (by kernel_rfl) ((orbit_in_r (r := true) d (-10) 10 _ (hb14)).mono ?_))
      rintro e w16 ⟨rfl, hb⟩
      replace hE := hE.trans hb; replace hX9 := hX9.trans hb; have hs17 := hb.size; clear hb
      refine ⟨_, rfl, ?_⟩
      refine pT (.bool true) ?_
      refine pT (.bool true) ?_
      refine pl_take (.agg #[.int .i64 o.p, .int .i64 o.f, .int .i64 o.lo, .int .i64 o.hi, .int .i64 o.nd, .int .i64 o.tn, .int .i64 o.sl]) rfl (by kernel_rfl) (by kernel_rfl) (by kernel_rfl) (ex_load rfl (by kernel_rfl) (ld24 ((BoxAt.ext hX9 bO1_0).1) ((BoxAt.ext hX9 bO1_1).1) ((BoxAt.ext hX9 bO1_2).1) ((BoxAt.ext hX9 bO1_3).1) ((BoxAt.ext hX9 bO1_4).1) ((BoxAt.ext hX9 bO1_5).1) ((BoxAt.ext hX9 bO1_6).1))) ?_
      rcases Bool.eq_false_or_eq_true (Orb.ok o) with hb18 | hb18
      ·
        refine pS (sn_call (f := 56) (args := #[.agg #[.int .i64 o.p, .int .i64 o.f, .int .i64 o.lo, .int .i64 o.hi, .int .i64 o.nd, .int .i64 o.tn, .int .i64 o.sl]]) (by kernel_rfl) ((oValid_r (r := true) _ (hb18)).mono ?_))
        rintro e w19 ⟨rfl, hb⟩
        replace hE := hE.trans hb; replace hX9 := hX9.trans hb; have hs20 := hb.size; clear hb
        refine ⟨_, rfl, ?_⟩
        refine pT (.bool true) ?_
        refine pT (.bool true) ?_
        refine pl_nil ?_; refine qw_then ?_
        refine cw_clean [1, 2, 3, 6, 8] (ws' := [(1, .int .i64 t), (2, .int .i64 d), (3, .pointer (some ⟨O1, 0, none⟩)), (6, .pointer (some ⟨O5, 0, none⟩)), (8, .bool true)]) (by kernel_rfl) (fun L => ?_)
        refine cw_seq ?_; refine cw_plain ?_
        refine pl_take (.agg #[.int .i64 o.p, .int .i64 o.f, .int .i64 o.lo, .int .i64 o.hi, .int .i64 o.nd, .int .i64 o.tn, .int .i64 o.sl]) rfl (by kernel_rfl) (by kernel_rfl) (by kernel_rfl) (ex_load rfl (by kernel_rfl) (ld24 ((BoxAt.ext hX9 bO1_0).1) ((BoxAt.ext hX9 bO1_1).1) ((BoxAt.ext hX9 bO1_2).1) ((BoxAt.ext hX9 bO1_3).1) ((BoxAt.ext hX9 bO1_4).1) ((BoxAt.ext hX9 bO1_5).1) ((BoxAt.ext hX9 bO1_6).1))) ?_
        refine pT (.int .i64 t) ?_
        refine pT (.int .i64 d) ?_
        refine pT (.int .i64 (IntKind.i64.wrap (t - d) : Int)) ?_
        refine pT (.agg #[.int .i64 o.p, .int .i64 o.f, .int .i64 o.lo, .int .i64 o.hi, .int .i64 o.nd, .int .i64 o.tn, .int .i64 o.sl, .int .i64 (IntKind.i64.wrap (t - d) : Int)]) ?_
        refine pT (.bool true) ?_
        have bO1_t22 := (BoxAt.ext hX9 bO1_0)
        have bO1_t23 := (BoxAt.ext hX9 bO1_1)
        have bO1_t24 := (BoxAt.ext hX9 bO1_2)
        have bO1_t25 := (BoxAt.ext hX9 bO1_3)
        have bO1_t26 := (BoxAt.ext hX9 bO1_4)
        have bO1_t27 := (BoxAt.ext hX9 bO1_5)
        have bO1_t28 := (BoxAt.ext hX9 bO1_6)
        have bO5_t29 := (BoxAt.ext hX9 bO5_0)
        have bO5_t30 := (BoxAt.ext hX9 bO5_1)
        have bO5_t31 := (BoxAt.ext hX9 bO5_2)
        have bO5_t32 := (BoxAt.ext hX9 bO5_3)
        have bO5_t33 := (BoxAt.ext hX9 bO5_4)
        have bO5_t34 := (BoxAt.ext hX9 bO5_5)
        have bO5_t35 := (BoxAt.ext hX9 bO5_6)
        have bO5_t36 := (BoxAt.ext hX9 bO5_7)
        refine pl_put rfl (by kernel_rfl) (by kernel_rfl) (sn_setK8 (O := O5) (j := 0) (v0 := .int .i64 o.p) (v1 := .int .i64 o.f) (v2 := .int .i64 o.lo) (v3 := .int .i64 o.hi) (v4 := .int .i64 o.nd) (v5 := .int .i64 o.tn) (v6 := .int .i64 o.sl) (v7 := .int .i64 (IntKind.i64.wrap (t - d) : Int)) (ex_store (p := .pointer (some ⟨O5, 0, none⟩)) (v := .agg #[.int .i64 o.p, .int .i64 o.f, .int .i64 o.lo, .int .i64 o.hi, .int .i64 o.nd, .int .i64 o.tn, .int .i64 o.sl, .int .i64 (IntKind.i64.wrap (t - d) : Int)]) rfl (by kernel_rfl) (by kernel_rfl) (st96 bO5_t29.1 bO5_t29.2 bO5_t30.1 bO5_t30.2 bO5_t31.1 bO5_t31.2 bO5_t32.1 bO5_t32.2 bO5_t33.1 bO5_t33.2 bO5_t34.1 bO5_t34.2 bO5_t35.1 bO5_t35.2 bO5_t36.1 bO5_t36.2)) bO5_t29 bO5_t30 bO5_t31 bO5_t32 bO5_t33 bO5_t34 bO5_t35 bO5_t36 ?_)
        intro X21 ho hv0 hv1 hv2 hv3 hv4 hv5 hv6 hv7 hk
        replace hE := ho.ext hE (T hs3 (Nat.le_of_eq hzO5)); replace bO1_t22 := ho.box (Nat.ne_of_gt (Nat.lt_of_lt_of_le lt4 (Nat.le_of_eq hzO5))) bO1_t22; replace bO1_t23 := ho.box (Nat.ne_of_gt (Nat.lt_of_lt_of_le lt4 (Nat.le_of_eq hzO5))) bO1_t23; replace bO1_t24 := ho.box (Nat.ne_of_gt (Nat.lt_of_lt_of_le lt4 (Nat.le_of_eq hzO5))) bO1_t24; replace bO1_t25 := ho.box (Nat.ne_of_gt (Nat.lt_of_lt_of_le lt4 (Nat.le_of_eq hzO5))) bO1_t25; replace bO1_t26 := ho.box (Nat.ne_of_gt (Nat.lt_of_lt_of_le lt4 (Nat.le_of_eq hzO5))) bO1_t26; replace bO1_t27 := ho.box (Nat.ne_of_gt (Nat.lt_of_lt_of_le lt4 (Nat.le_of_eq hzO5))) bO1_t27; replace bO1_t28 := ho.box (Nat.ne_of_gt (Nat.lt_of_lt_of_le lt4 (Nat.le_of_eq hzO5))) bO1_t28
        have hs37 : w19.heap.size ≤ X21.heap.size := Nat.le_of_eq ho.size.symm
        clear ho hk bO5_t29 bO5_t30 bO5_t31 bO5_t32 bO5_t33 bO5_t34 bO5_t35 bO5_t36
        have bO5_t29 := hv0; clear hv0
        have bO5_t30 := hv1; clear hv1
        have bO5_t31 := hv2; clear hv2
        have bO5_t32 := hv3; clear hv3
        have bO5_t33 := hv4; clear hv4
        have bO5_t34 := hv5; clear hv5
        have bO5_t35 := hv6; clear hv6
        have bO5_t36 := hv7; clear hv7
        refine pT (.bool true) ?_
        refine pl_nil ?_; refine qw_then ?_
        refine cw_ret ?_
        refine qw_ret [.agg #[.int .i64 o.p, .int .i64 o.f, .int .i64 o.lo, .int .i64 o.hi, .int .i64 o.nd, .int .i64 o.tn, .int .i64 o.sl, .int .i64 (IntKind.i64.wrap (t - d) : Int)], .bool true] rfl ⟨⟨_, by kernel_rfl, res_ld (ld96 (bO5_t29.1) (bO5_t30.1) (bO5_t31.1) (bO5_t32.1) (bO5_t33.1) (bO5_t34.1) (bO5_t35.1) (bO5_t36.1))⟩, (by kernel_rfl), trivial⟩ ?_
        simp [Orb.atB, hb10, hb14, hb18] at hat
      ·
        refine pS (sn_call (f := 56) (args := #[.agg #[.int .i64 o.p, .int .i64 o.f, .int .i64 o.lo, .int .i64 o.hi, .int .i64 o.nd, .int .i64 o.tn, .int .i64 o.sl]]) (by kernel_rfl) ((oValid_r (r := false) _ (hb18)).mono ?_))
        rintro e w38 ⟨rfl, hb⟩
        replace hE := hE.trans hb; replace hX9 := hX9.trans hb; have hs39 := hb.size; clear hb
        refine ⟨_, rfl, ?_⟩
        refine pT (.bool false) ?_
        refine pT (.bool false) ?_
        refine pl_nil ?_; refine qw_then ?_
        refine cw_clean [1, 2, 3, 6, 8] (ws' := [(1, .int .i64 t), (2, .int .i64 d), (3, .pointer (some ⟨O1, 0, none⟩)), (6, .pointer (some ⟨O5, 0, none⟩)), (8, .bool false)]) (by kernel_rfl) (fun L => ?_)
        refine cw_seq ?_; refine cw_plain ?_
        refine pl_take (.agg #[.int .i64 o.p, .int .i64 o.f, .int .i64 o.lo, .int .i64 o.hi, .int .i64 o.nd, .int .i64 o.tn, .int .i64 o.sl]) rfl (by kernel_rfl) (by kernel_rfl) (by kernel_rfl) (ex_load rfl (by kernel_rfl) (ld24 ((BoxAt.ext hX9 bO1_0).1) ((BoxAt.ext hX9 bO1_1).1) ((BoxAt.ext hX9 bO1_2).1) ((BoxAt.ext hX9 bO1_3).1) ((BoxAt.ext hX9 bO1_4).1) ((BoxAt.ext hX9 bO1_5).1) ((BoxAt.ext hX9 bO1_6).1))) ?_
        refine pT (.int .i64 t) ?_
        refine pT (.int .i64 d) ?_
        refine pT (.int .i64 (IntKind.i64.wrap (t - d) : Int)) ?_
        refine pT (.agg #[.int .i64 o.p, .int .i64 o.f, .int .i64 o.lo, .int .i64 o.hi, .int .i64 o.nd, .int .i64 o.tn, .int .i64 o.sl, .int .i64 (IntKind.i64.wrap (t - d) : Int)]) ?_
        refine pT (.bool false) ?_
        have bO1_t41 := (BoxAt.ext hX9 bO1_0)
        have bO1_t42 := (BoxAt.ext hX9 bO1_1)
        have bO1_t43 := (BoxAt.ext hX9 bO1_2)
        have bO1_t44 := (BoxAt.ext hX9 bO1_3)
        have bO1_t45 := (BoxAt.ext hX9 bO1_4)
        have bO1_t46 := (BoxAt.ext hX9 bO1_5)
        have bO1_t47 := (BoxAt.ext hX9 bO1_6)
        have bO5_t48 := (BoxAt.ext hX9 bO5_0)
        have bO5_t49 := (BoxAt.ext hX9 bO5_1)
        have bO5_t50 := (BoxAt.ext hX9 bO5_2)
        have bO5_t51 := (BoxAt.ext hX9 bO5_3)
        have bO5_t52 := (BoxAt.ext hX9 bO5_4)
        have bO5_t53 := (BoxAt.ext hX9 bO5_5)
        have bO5_t54 := (BoxAt.ext hX9 bO5_6)
        have bO5_t55 := (BoxAt.ext hX9 bO5_7)
        refine pl_put rfl (by kernel_rfl) (by kernel_rfl) (sn_setK8 (O := O5) (j := 0) (v0 := .int .i64 o.p) (v1 := .int .i64 o.f) (v2 := .int .i64 o.lo) (v3 := .int .i64 o.hi) (v4 := .int .i64 o.nd) (v5 := .int .i64 o.tn) (v6 := .int .i64 o.sl) (v7 := .int .i64 (IntKind.i64.wrap (t - d) : Int)) (ex_store (p := .pointer (some ⟨O5, 0, none⟩)) (v := .agg #[.int .i64 o.p, .int .i64 o.f, .int .i64 o.lo, .int .i64 o.hi, .int .i64 o.nd, .int .i64 o.tn, .int .i64 o.sl, .int .i64 (IntKind.i64.wrap (t - d) : Int)]) rfl (by kernel_rfl) (by kernel_rfl) (st96 bO5_t48.1 bO5_t48.2 bO5_t49.1 bO5_t49.2 bO5_t50.1 bO5_t50.2 bO5_t51.1 bO5_t51.2 bO5_t52.1 bO5_t52.2 bO5_t53.1 bO5_t53.2 bO5_t54.1 bO5_t54.2 bO5_t55.1 bO5_t55.2)) bO5_t48 bO5_t49 bO5_t50 bO5_t51 bO5_t52 bO5_t53 bO5_t54 bO5_t55 ?_)
        intro X40 ho hv0 hv1 hv2 hv3 hv4 hv5 hv6 hv7 hk
        replace hE := ho.ext hE (T hs3 (Nat.le_of_eq hzO5)); replace bO1_t41 := ho.box (Nat.ne_of_gt (Nat.lt_of_lt_of_le lt4 (Nat.le_of_eq hzO5))) bO1_t41; replace bO1_t42 := ho.box (Nat.ne_of_gt (Nat.lt_of_lt_of_le lt4 (Nat.le_of_eq hzO5))) bO1_t42; replace bO1_t43 := ho.box (Nat.ne_of_gt (Nat.lt_of_lt_of_le lt4 (Nat.le_of_eq hzO5))) bO1_t43; replace bO1_t44 := ho.box (Nat.ne_of_gt (Nat.lt_of_lt_of_le lt4 (Nat.le_of_eq hzO5))) bO1_t44; replace bO1_t45 := ho.box (Nat.ne_of_gt (Nat.lt_of_lt_of_le lt4 (Nat.le_of_eq hzO5))) bO1_t45; replace bO1_t46 := ho.box (Nat.ne_of_gt (Nat.lt_of_lt_of_le lt4 (Nat.le_of_eq hzO5))) bO1_t46; replace bO1_t47 := ho.box (Nat.ne_of_gt (Nat.lt_of_lt_of_le lt4 (Nat.le_of_eq hzO5))) bO1_t47
        have hs56 : w38.heap.size ≤ X40.heap.size := Nat.le_of_eq ho.size.symm
        clear ho hk bO5_t48 bO5_t49 bO5_t50 bO5_t51 bO5_t52 bO5_t53 bO5_t54 bO5_t55
        have bO5_t48 := hv0; clear hv0
        have bO5_t49 := hv1; clear hv1
        have bO5_t50 := hv2; clear hv2
        have bO5_t51 := hv3; clear hv3
        have bO5_t52 := hv4; clear hv4
        have bO5_t53 := hv5; clear hv5
        have bO5_t54 := hv6; clear hv6
        have bO5_t55 := hv7; clear hv7
        refine pT (.bool false) ?_
        refine pl_nil ?_; refine qw_then ?_
        refine cw_ret ?_
        refine qw_ret [.agg #[.int .i64 o.p, .int .i64 o.f, .int .i64 o.lo, .int .i64 o.hi, .int .i64 o.nd, .int .i64 o.tn, .int .i64 o.sl, .int .i64 (IntKind.i64.wrap (t - d) : Int)], .bool false] rfl ⟨⟨_, by kernel_rfl, res_ld (ld96 (bO5_t48.1) (bO5_t49.1) (bO5_t50.1) (bO5_t51.1) (bO5_t52.1) (bO5_t53.1) (bO5_t54.1) (bO5_t55.1))⟩, (by kernel_rfl), trivial⟩ ?_
        exact ⟨_, rfl, hE⟩
    ·
      refine pS (sn_call (f := 87) (args := #[.int .i64 d, .int .i64 (-10 : Int), .int .i64 10]) (by kernel_rfl) ((orbit_in_r (r := false) d (-10) 10 _ (hb14)).mono ?_))
      rintro e w57 ⟨rfl, hb⟩
      replace hE := hE.trans hb; replace hX9 := hX9.trans hb; have hs58 := hb.size; clear hb
      refine ⟨_, rfl, ?_⟩
      refine pT (.bool false) ?_
      refine pT (.bool false) ?_
      refine pl_skip rfl (by kernel_rfl) (by kernel_rfl) (by kernel_rfl) ?_
      refine pl_skip rfl (by kernel_rfl) (by kernel_rfl) (by kernel_rfl) ?_
      refine pT (.bool false) ?_
      refine pT (.bool false) ?_
      refine pl_nil ?_; refine qw_then ?_
      refine cw_clean [1, 2, 3, 6, 8] (ws' := [(1, .int .i64 t), (2, .int .i64 d), (3, .pointer (some ⟨O1, 0, none⟩)), (6, .pointer (some ⟨O5, 0, none⟩)), (8, .bool false)]) (by kernel_rfl) (fun L => ?_)
      refine cw_seq ?_; refine cw_plain ?_
      refine pl_take (.agg #[.int .i64 o.p, .int .i64 o.f, .int .i64 o.lo, .int .i64 o.hi, .int .i64 o.nd, .int .i64 o.tn, .int .i64 o.sl]) rfl (by kernel_rfl) (by kernel_rfl) (by kernel_rfl) (ex_load rfl (by kernel_rfl) (ld24 ((BoxAt.ext hX9 bO1_0).1) ((BoxAt.ext hX9 bO1_1).1) ((BoxAt.ext hX9 bO1_2).1) ((BoxAt.ext hX9 bO1_3).1) ((BoxAt.ext hX9 bO1_4).1) ((BoxAt.ext hX9 bO1_5).1) ((BoxAt.ext hX9 bO1_6).1))) ?_
      refine pT (.int .i64 t) ?_
      refine pT (.int .i64 d) ?_
      refine pT (.int .i64 (IntKind.i64.wrap (t - d) : Int)) ?_
      refine pT (.agg #[.int .i64 o.p, .int .i64 o.f, .int .i64 o.lo, .int .i64 o.hi, .int .i64 o.nd, .int .i64 o.tn, .int .i64 o.sl, .int .i64 (IntKind.i64.wrap (t - d) : Int)]) ?_
      refine pT (.bool false) ?_
      have bO1_t60 := (BoxAt.ext hX9 bO1_0)
      have bO1_t61 := (BoxAt.ext hX9 bO1_1)
      have bO1_t62 := (BoxAt.ext hX9 bO1_2)
      have bO1_t63 := (BoxAt.ext hX9 bO1_3)
      have bO1_t64 := (BoxAt.ext hX9 bO1_4)
      have bO1_t65 := (BoxAt.ext hX9 bO1_5)
      have bO1_t66 := (BoxAt.ext hX9 bO1_6)
      have bO5_t67 := (BoxAt.ext hX9 bO5_0)
      have bO5_t68 := (BoxAt.ext hX9 bO5_1)
      have bO5_t69 := (BoxAt.ext hX9 bO5_2)
      have bO5_t70 := (BoxAt.ext hX9 bO5_3)
      have bO5_t71 := (BoxAt.ext hX9 bO5_4)
      have bO5_t72 := (BoxAt.ext hX9 bO5_5)
      have bO5_t73 := (BoxAt.ext hX9 bO5_6)
      have bO5_t74 := (BoxAt.ext hX9 bO5_7)
      refine pl_put rfl (by kernel_rfl) (by kernel_rfl) (sn_setK8 (O := O5) (j := 0) (v0 := .int .i64 o.p) (v1 := .int .i64 o.f) (v2 := .int .i64 o.lo) (v3 := .int .i64 o.hi) (v4 := .int .i64 o.nd) (v5 := .int .i64 o.tn) (v6 := .int .i64 o.sl) (v7 := .int .i64 (IntKind.i64.wrap (t - d) : Int)) (ex_store (p := .pointer (some ⟨O5, 0, none⟩)) (v := .agg #[.int .i64 o.p, .int .i64 o.f, .int .i64 o.lo, .int .i64 o.hi, .int .i64 o.nd, .int .i64 o.tn, .int .i64 o.sl, .int .i64 (IntKind.i64.wrap (t - d) : Int)]) rfl (by kernel_rfl) (by kernel_rfl) (st96 bO5_t67.1 bO5_t67.2 bO5_t68.1 bO5_t68.2 bO5_t69.1 bO5_t69.2 bO5_t70.1 bO5_t70.2 bO5_t71.1 bO5_t71.2 bO5_t72.1 bO5_t72.2 bO5_t73.1 bO5_t73.2 bO5_t74.1 bO5_t74.2)) bO5_t67 bO5_t68 bO5_t69 bO5_t70 bO5_t71 bO5_t72 bO5_t73 bO5_t74 ?_)
      intro X59 ho hv0 hv1 hv2 hv3 hv4 hv5 hv6 hv7 hk
      replace hE := ho.ext hE (T hs3 (Nat.le_of_eq hzO5)); replace bO1_t60 := ho.box (Nat.ne_of_gt (Nat.lt_of_lt_of_le lt4 (Nat.le_of_eq hzO5))) bO1_t60; replace bO1_t61 := ho.box (Nat.ne_of_gt (Nat.lt_of_lt_of_le lt4 (Nat.le_of_eq hzO5))) bO1_t61; replace bO1_t62 := ho.box (Nat.ne_of_gt (Nat.lt_of_lt_of_le lt4 (Nat.le_of_eq hzO5))) bO1_t62; replace bO1_t63 := ho.box (Nat.ne_of_gt (Nat.lt_of_lt_of_le lt4 (Nat.le_of_eq hzO5))) bO1_t63; replace bO1_t64 := ho.box (Nat.ne_of_gt (Nat.lt_of_lt_of_le lt4 (Nat.le_of_eq hzO5))) bO1_t64; replace bO1_t65 := ho.box (Nat.ne_of_gt (Nat.lt_of_lt_of_le lt4 (Nat.le_of_eq hzO5))) bO1_t65; replace bO1_t66 := ho.box (Nat.ne_of_gt (Nat.lt_of_lt_of_le lt4 (Nat.le_of_eq hzO5))) bO1_t66
      have hs75 : w57.heap.size ≤ X59.heap.size := Nat.le_of_eq ho.size.symm
      clear ho hk bO5_t67 bO5_t68 bO5_t69 bO5_t70 bO5_t71 bO5_t72 bO5_t73 bO5_t74
      have bO5_t67 := hv0; clear hv0
      have bO5_t68 := hv1; clear hv1
      have bO5_t69 := hv2; clear hv2
      have bO5_t70 := hv3; clear hv3
      have bO5_t71 := hv4; clear hv4
      have bO5_t72 := hv5; clear hv5
      have bO5_t73 := hv6; clear hv6
      have bO5_t74 := hv7; clear hv7
      refine pT (.bool false) ?_
      refine pl_nil ?_; refine qw_then ?_
      refine cw_ret ?_
      refine qw_ret [.agg #[.int .i64 o.p, .int .i64 o.f, .int .i64 o.lo, .int .i64 o.hi, .int .i64 o.nd, .int .i64 o.tn, .int .i64 o.sl, .int .i64 (IntKind.i64.wrap (t - d) : Int)], .bool false] rfl ⟨⟨_, by kernel_rfl, res_ld (ld96 (bO5_t67.1) (bO5_t68.1) (bO5_t69.1) (bO5_t70.1) (bO5_t71.1) (bO5_t72.1) (bO5_t73.1) (bO5_t74.1))⟩, (by kernel_rfl), trivial⟩ ?_
      exact ⟨_, rfl, hE⟩
  ·
    refine pS (sn_call (f := 87) (args := #[.int .i64 t, .int .i64 0, .int .i64 1000000]) (by kernel_rfl) ((orbit_in_r (r := false) t 0 1000000 _ (hb10)).mono ?_))
    rintro e w76 ⟨rfl, hb⟩
    replace hE := hE.trans hb; replace hX9 := hX9.trans hb; have hs77 := hb.size; clear hb
    refine ⟨_, rfl, ?_⟩
    refine pT (.bool false) ?_
    refine pl_skip rfl (by kernel_rfl) (by kernel_rfl) (by kernel_rfl) ?_
    refine pl_skip rfl (by kernel_rfl) (by kernel_rfl) (by kernel_rfl) ?_
    refine pT (.bool false) ?_
    refine pT (.bool false) ?_
    refine pl_skip rfl (by kernel_rfl) (by kernel_rfl) (by kernel_rfl) ?_
    refine pl_skip rfl (by kernel_rfl) (by kernel_rfl) (by kernel_rfl) ?_
    refine pT (.bool false) ?_
    refine pT (.bool false) ?_
    refine pl_nil ?_; refine qw_then ?_
    refine cw_clean [1, 2, 3, 6, 8] (ws' := [(1, .int .i64 t), (2, .int .i64 d), (3, .pointer (some ⟨O1, 0, none⟩)), (6, .pointer (some ⟨O5, 0, none⟩)), (8, .bool false)]) (by kernel_rfl) (fun L => ?_)
    refine cw_seq ?_; refine cw_plain ?_
    refine pl_take (.agg #[.int .i64 o.p, .int .i64 o.f, .int .i64 o.lo, .int .i64 o.hi, .int .i64 o.nd, .int .i64 o.tn, .int .i64 o.sl]) rfl (by kernel_rfl) (by kernel_rfl) (by kernel_rfl) (ex_load rfl (by kernel_rfl) (ld24 ((BoxAt.ext hX9 bO1_0).1) ((BoxAt.ext hX9 bO1_1).1) ((BoxAt.ext hX9 bO1_2).1) ((BoxAt.ext hX9 bO1_3).1) ((BoxAt.ext hX9 bO1_4).1) ((BoxAt.ext hX9 bO1_5).1) ((BoxAt.ext hX9 bO1_6).1))) ?_
    refine pT (.int .i64 t) ?_
    refine pT (.int .i64 d) ?_
    refine pT (.int .i64 (IntKind.i64.wrap (t - d) : Int)) ?_
    refine pT (.agg #[.int .i64 o.p, .int .i64 o.f, .int .i64 o.lo, .int .i64 o.hi, .int .i64 o.nd, .int .i64 o.tn, .int .i64 o.sl, .int .i64 (IntKind.i64.wrap (t - d) : Int)]) ?_
    refine pT (.bool false) ?_
    have bO1_t79 := (BoxAt.ext hX9 bO1_0)
    have bO1_t80 := (BoxAt.ext hX9 bO1_1)
    have bO1_t81 := (BoxAt.ext hX9 bO1_2)
    have bO1_t82 := (BoxAt.ext hX9 bO1_3)
    have bO1_t83 := (BoxAt.ext hX9 bO1_4)
    have bO1_t84 := (BoxAt.ext hX9 bO1_5)
    have bO1_t85 := (BoxAt.ext hX9 bO1_6)
    have bO5_t86 := (BoxAt.ext hX9 bO5_0)
    have bO5_t87 := (BoxAt.ext hX9 bO5_1)
    have bO5_t88 := (BoxAt.ext hX9 bO5_2)
    have bO5_t89 := (BoxAt.ext hX9 bO5_3)
    have bO5_t90 := (BoxAt.ext hX9 bO5_4)
    have bO5_t91 := (BoxAt.ext hX9 bO5_5)
    have bO5_t92 := (BoxAt.ext hX9 bO5_6)
    have bO5_t93 := (BoxAt.ext hX9 bO5_7)
    refine pl_put rfl (by kernel_rfl) (by kernel_rfl) (sn_setK8 (O := O5) (j := 0) (v0 := .int .i64 o.p) (v1 := .int .i64 o.f) (v2 := .int .i64 o.lo) (v3 := .int .i64 o.hi) (v4 := .int .i64 o.nd) (v5 := .int .i64 o.tn) (v6 := .int .i64 o.sl) (v7 := .int .i64 (IntKind.i64.wrap (t - d) : Int)) (ex_store (p := .pointer (some ⟨O5, 0, none⟩)) (v := .agg #[.int .i64 o.p, .int .i64 o.f, .int .i64 o.lo, .int .i64 o.hi, .int .i64 o.nd, .int .i64 o.tn, .int .i64 o.sl, .int .i64 (IntKind.i64.wrap (t - d) : Int)]) rfl (by kernel_rfl) (by kernel_rfl) (st96 bO5_t86.1 bO5_t86.2 bO5_t87.1 bO5_t87.2 bO5_t88.1 bO5_t88.2 bO5_t89.1 bO5_t89.2 bO5_t90.1 bO5_t90.2 bO5_t91.1 bO5_t91.2 bO5_t92.1 bO5_t92.2 bO5_t93.1 bO5_t93.2)) bO5_t86 bO5_t87 bO5_t88 bO5_t89 bO5_t90 bO5_t91 bO5_t92 bO5_t93 ?_)
    intro X78 ho hv0 hv1 hv2 hv3 hv4 hv5 hv6 hv7 hk
    replace hE := ho.ext hE (T hs3 (Nat.le_of_eq hzO5)); replace bO1_t79 := ho.box (Nat.ne_of_gt (Nat.lt_of_lt_of_le lt4 (Nat.le_of_eq hzO5))) bO1_t79; replace bO1_t80 := ho.box (Nat.ne_of_gt (Nat.lt_of_lt_of_le lt4 (Nat.le_of_eq hzO5))) bO1_t80; replace bO1_t81 := ho.box (Nat.ne_of_gt (Nat.lt_of_lt_of_le lt4 (Nat.le_of_eq hzO5))) bO1_t81; replace bO1_t82 := ho.box (Nat.ne_of_gt (Nat.lt_of_lt_of_le lt4 (Nat.le_of_eq hzO5))) bO1_t82; replace bO1_t83 := ho.box (Nat.ne_of_gt (Nat.lt_of_lt_of_le lt4 (Nat.le_of_eq hzO5))) bO1_t83; replace bO1_t84 := ho.box (Nat.ne_of_gt (Nat.lt_of_lt_of_le lt4 (Nat.le_of_eq hzO5))) bO1_t84; replace bO1_t85 := ho.box (Nat.ne_of_gt (Nat.lt_of_lt_of_le lt4 (Nat.le_of_eq hzO5))) bO1_t85
    have hs94 : w76.heap.size ≤ X78.heap.size := Nat.le_of_eq ho.size.symm
    clear ho hk bO5_t86 bO5_t87 bO5_t88 bO5_t89 bO5_t90 bO5_t91 bO5_t92 bO5_t93
    have bO5_t86 := hv0; clear hv0
    have bO5_t87 := hv1; clear hv1
    have bO5_t88 := hv2; clear hv2
    have bO5_t89 := hv3; clear hv3
    have bO5_t90 := hv4; clear hv4
    have bO5_t91 := hv5; clear hv5
    have bO5_t92 := hv6; clear hv6
    have bO5_t93 := hv7; clear hv7
    refine pT (.bool false) ?_
    refine pl_nil ?_; refine qw_then ?_
    refine cw_ret ?_
    refine qw_ret [.agg #[.int .i64 o.p, .int .i64 o.f, .int .i64 o.lo, .int .i64 o.hi, .int .i64 o.nd, .int .i64 o.tn, .int .i64 o.sl, .int .i64 (IntKind.i64.wrap (t - d) : Int)], .bool false] rfl ⟨⟨_, by kernel_rfl, res_ld (ld96 (bO5_t86.1) (bO5_t87.1) (bO5_t88.1) (bO5_t89.1) (bO5_t90.1) (bO5_t91.1) (bO5_t92.1) (bO5_t93.1))⟩, (by kernel_rfl), trivial⟩ ?_
    exact ⟨_, rfl, hE⟩
set_option maxRecDepth 1000000 in
set_option maxHeartbeats 4000000 in
theorem At_y (o : Orb) (t d : Int) (w : World) (hat : Orb.atB o t d = true) : Calls Try.prog 28 #[.agg #[.int .i64 o.p, .int .i64 o.f, .int .i64 o.lo, .int .i64 o.hi, .int .i64 o.nd, .int .i64 o.tn, .int .i64 o.sl], .int .i64 t, .int .i64 d] w fun e w' => e = .returned (.tuple #[.agg #[.int .i64 ((Orb.cx o (t - d) : Nat) : Int), .int .i64 ((Orb.cy o (t - d) : Nat) : Int)], .int .i64 0]) ∧ Ext w w' := by
  have ha9 : (Globe.inB t 0 1000000 = true ∧ Globe.inB d (-10) 10 = true) ∧ Orb.ok o = true := by simpa [Orb.atB] using hat
  have h1 := Globe.inB_t.1 ha9.1.1
  have h2 := Globe.inB_t.1 ha9.1.2
  have hok := ha9.2
  refine calls_cw 22 [(2, .int .i64 d), (1, .int .i64 t), (0, .agg #[.int .i64 o.p, .int .i64 o.f, .int .i64 o.lo, .int .i64 o.hi, .int .i64 o.nd, .int .i64 o.tn, .int .i64 o.sl])] Try.func28 rfl Try.ntmps28 (by kernel_rfl) (by kernel_rfl) (fun L => ?_)
  have hE : Ext w w := Ext.refl w
  refine cw_seq ?_; refine cw_plain ?_
  refine pS (sn_new (us := #[.int .i64 o.p, .int .i64 o.f, .int .i64 o.lo, .int .i64 o.hi, .int .i64 o.nd, .int .i64 o.tn, .int .i64 o.sl]) (t := 24) (by kernel_rfl) ?_)
  intro O1 X2 hO hOs hb hbx
  have hzO1 := hO; have hyO1 := hOs; clear hO hOs
  have bO1_0 : BoxAt X2 O1 0 (.int .i64 o.p) := hbx 0 _ rfl
  have bO1_1 : BoxAt X2 O1 1 (.int .i64 o.f) := hbx 1 _ rfl
  have bO1_2 : BoxAt X2 O1 2 (.int .i64 o.lo) := hbx 2 _ rfl
  have bO1_3 : BoxAt X2 O1 3 (.int .i64 o.hi) := hbx 3 _ rfl
  have bO1_4 : BoxAt X2 O1 4 (.int .i64 o.nd) := hbx 4 _ rfl
  have bO1_5 : BoxAt X2 O1 5 (.int .i64 o.tn) := hbx 5 _ rfl
  have bO1_6 : BoxAt X2 O1 6 (.int .i64 o.sl) := hbx 6 _ rfl
  clear hbx; replace hE := hE.trans hb; have hs3 := hb.size; clear hb; have lt4 := bO1_0.lt
  refine pS (sn_new (us := #[.int .i64 0, .int .i64 0]) (t := 57) (by kernel_rfl) ?_)
  intro O5 X6 hO hOs hb hbx
  have hzO5 := hO; have hyO5 := hOs; clear hO hOs
  have bO5_0 : BoxAt X6 O5 0 (.int .i64 0) := hbx 0 _ rfl
  have bO5_1 : BoxAt X6 O5 1 (.int .i64 0) := hbx 1 _ rfl
  clear hbx; replace hE := hE.trans hb; replace bO1_0 := BoxAt.ext hb bO1_0; replace bO1_1 := BoxAt.ext hb bO1_1; replace bO1_2 := BoxAt.ext hb bO1_2; replace bO1_3 := BoxAt.ext hb bO1_3; replace bO1_4 := BoxAt.ext hb bO1_4; replace bO1_5 := BoxAt.ext hb bO1_5; replace bO1_6 := BoxAt.ext hb bO1_6; have hs7 := hb.size; clear hb; have lt8 := bO5_0.lt
  refine pT (.int .i64 0) ?_
  refine pl_nil ?_; refine qw_then ?_; refine cw_seq ?_
  have hX9 : Ext X6 X6 := Ext.refl _
  refine cw_plain ?_
  refine pl_take (.agg #[.int .i64 o.p, .int .i64 o.f, .int .i64 o.lo, .int .i64 o.hi, .int .i64 o.nd, .int .i64 o.tn, .int .i64 o.sl]) rfl (by kernel_rfl) (by kernel_rfl) (by kernel_rfl) (ex_load rfl (by kernel_rfl) (ld24 (bO1_0.1) (bO1_1.1) (bO1_2.1) (bO1_3.1) (bO1_4.1) (bO1_5.1) (bO1_6.1))) ?_
  refine pT (.int .i64 t) ?_
  refine pT (.int .i64 d) ?_
  refine pS (sn_call (f := 63) (args := #[.agg #[.int .i64 o.p, .int .i64 o.f, .int .i64 o.lo, .int .i64 o.hi, .int .i64 o.nd, .int .i64 o.tn, .int .i64 o.sl], .int .i64 t, .int .i64 d]) (by kernel_rfl) ((at_y o t d _ (hat)).mono ?_))
  rintro e w10 ⟨rfl, hb⟩
  replace hE := hE.trans hb; replace hX9 := hX9.trans hb; have hs11 := hb.size; clear hb
  refine ⟨_, rfl, ?_⟩
  refine pT (.tuple #[.agg #[.int .i64 o.p, .int .i64 o.f, .int .i64 o.lo, .int .i64 o.hi, .int .i64 o.nd, .int .i64 o.tn, .int .i64 o.sl, .int .i64 (t - d : Int)], .bool true]) ?_
  refine pT (.agg #[.int .i64 o.p, .int .i64 o.f, .int .i64 o.lo, .int .i64 o.hi, .int .i64 o.nd, .int .i64 o.tn, .int .i64 o.sl, .int .i64 (t - d : Int)]) ?_
  refine pT (.bool true) ?_
  refine pS (sn_new (us := #[.int .i64 0, .int .i64 0, .int .i64 0, .int .i64 0, .int .i64 0, .int .i64 0, .int .i64 0, .int .i64 0]) (t := 96) (by kernel_rfl) ?_)
  intro O12 X13 hO hOs hb hbx
  have hzO12 := hO; have hyO12 := hOs; clear hO hOs
  have bO12_0 : BoxAt X13 O12 0 (.int .i64 0) := hbx 0 _ rfl
  have bO12_1 : BoxAt X13 O12 1 (.int .i64 0) := hbx 1 _ rfl
  have bO12_2 : BoxAt X13 O12 2 (.int .i64 0) := hbx 2 _ rfl
  have bO12_3 : BoxAt X13 O12 3 (.int .i64 0) := hbx 3 _ rfl
  have bO12_4 : BoxAt X13 O12 4 (.int .i64 0) := hbx 4 _ rfl
  have bO12_5 : BoxAt X13 O12 5 (.int .i64 0) := hbx 5 _ rfl
  have bO12_6 : BoxAt X13 O12 6 (.int .i64 0) := hbx 6 _ rfl
  have bO12_7 : BoxAt X13 O12 7 (.int .i64 0) := hbx 7 _ rfl
  clear hbx; replace hE := hE.trans hb; replace hX9 := hX9.trans hb; have hs14 := hb.size; clear hb; have lt15 := bO12_0.lt
  refine pl_put rfl (by kernel_rfl) (by kernel_rfl) (sn_setK8 (O := O12) (j := 0) (v0 := .int .i64 o.p) (v1 := .int .i64 o.f) (v2 := .int .i64 o.lo) (v3 := .int .i64 o.hi) (v4 := .int .i64 o.nd) (v5 := .int .i64 o.tn) (v6 := .int .i64 o.sl) (v7 := .int .i64 (t - d : Int)) (ex_store (p := .pointer (some ⟨O12, 0, none⟩)) (v := .agg #[.int .i64 o.p, .int .i64 o.f, .int .i64 o.lo, .int .i64 o.hi, .int .i64 o.nd, .int .i64 o.tn, .int .i64 o.sl, .int .i64 (t - d : Int)]) rfl (by kernel_rfl) (by kernel_rfl) (st96 bO12_0.1 bO12_0.2 bO12_1.1 bO12_1.2 bO12_2.1 bO12_2.2 bO12_3.1 bO12_3.2 bO12_4.1 bO12_4.2 bO12_5.1 bO12_5.2 bO12_6.1 bO12_6.2 bO12_7.1 bO12_7.2)) bO12_0 bO12_1 bO12_2 bO12_3 bO12_4 bO12_5 bO12_6 bO12_7 ?_)
  intro X16 ho hv0 hv1 hv2 hv3 hv4 hv5 hv6 hv7 hk
  replace hE := ho.ext hE (T (T hs3 (T hs7 hs11)) (Nat.le_of_eq hzO12)); replace hX9 := ho.ext hX9 (T hs11 (Nat.le_of_eq hzO12))
  have hs17 : X13.heap.size ≤ X16.heap.size := Nat.le_of_eq ho.size.symm
  clear ho hk bO12_0 bO12_1 bO12_2 bO12_3 bO12_4 bO12_5 bO12_6 bO12_7
  have bO12_0 := hv0; clear hv0
  have bO12_1 := hv1; clear hv1
  have bO12_2 := hv2; clear hv2
  have bO12_3 := hv3; clear hv3
  have bO12_4 := hv4; clear hv4
  have bO12_5 := hv5; clear hv5
  have bO12_6 := hv6; clear hv6
  have bO12_7 := hv7; clear hv7
  refine pT (.bool true) ?_
  refine pl_nil ?_; refine qw_then ?_
  refine cw_clean [6, 8, 9] (ws' := [(6, .pointer (some ⟨O5, 0, none⟩)), (8, .pointer (some ⟨O12, 0, none⟩)), (9, .bool true)]) (by kernel_rfl) (fun L => ?_)
  refine cw_seq ?_; refine cw_seq ?_
  have hX18 : Ext X16 X16 := Ext.refl _
  refine cw_plain ?_
  refine pT (.bool true) ?_
  refine pT (.bool false) ?_
  refine pl_nil ?_; refine qw_then ?_
  refine cw_f (by kernel_rfl) ?_
  refine cw_skip ?_
  refine qw_then ?_; refine cw_seq ?_; refine cw_plain ?_
  refine pl_take (.agg #[.int .i64 o.p, .int .i64 o.f, .int .i64 o.lo, .int .i64 o.hi, .int .i64 o.nd, .int .i64 o.tn, .int .i64 o.sl, .int .i64 (t - d : Int)]) rfl (by kernel_rfl) (by kernel_rfl) (by kernel_rfl) (ex_load rfl (by kernel_rfl) (ld96 (bO12_0.1) (bO12_1.1) (bO12_2.1) (bO12_3.1) (bO12_4.1) (bO12_5.1) (bO12_6.1) (bO12_7.1))) ?_
  refine pS (sn_call (f := 64) (args := #[.agg #[.int .i64 o.p, .int .i64 o.f, .int .i64 o.lo, .int .i64 o.hi, .int .i64 o.nd, .int .i64 o.tn, .int .i64 o.sl, .int .i64 (t - d : Int)]]) (by kernel_rfl) ((cell_c o (t - d) _ hok (by omega) (by omega)).mono ?_))
  rintro e w19 ⟨rfl, hb⟩
  replace hE := hE.trans hb; replace hX18 := hX18.trans hb; have hs20 := hb.size; clear hb
  refine ⟨_, rfl, ?_⟩
  have bO1_t22 := (BoxAt.ext (hX9.trans hX18) bO1_0)
  have bO1_t23 := (BoxAt.ext (hX9.trans hX18) bO1_1)
  have bO1_t24 := (BoxAt.ext (hX9.trans hX18) bO1_2)
  have bO1_t25 := (BoxAt.ext (hX9.trans hX18) bO1_3)
  have bO1_t26 := (BoxAt.ext (hX9.trans hX18) bO1_4)
  have bO1_t27 := (BoxAt.ext (hX9.trans hX18) bO1_5)
  have bO1_t28 := (BoxAt.ext (hX9.trans hX18) bO1_6)
  have bO5_t29 := (BoxAt.ext (hX9.trans hX18) bO5_0)
  have bO5_t30 := (BoxAt.ext (hX9.trans hX18) bO5_1)
  have bO12_t31 := (BoxAt.ext hX18 bO12_0)
  have bO12_t32 := (BoxAt.ext hX18 bO12_1)
  have bO12_t33 := (BoxAt.ext hX18 bO12_2)
  have bO12_t34 := (BoxAt.ext hX18 bO12_3)
  have bO12_t35 := (BoxAt.ext hX18 bO12_4)
  have bO12_t36 := (BoxAt.ext hX18 bO12_5)
  have bO12_t37 := (BoxAt.ext hX18 bO12_6)
  have bO12_t38 := (BoxAt.ext hX18 bO12_7)
  refine pl_put rfl (by kernel_rfl) (by kernel_rfl) (sn_set2 (O := O5) (j := 0) (v := .int .i64 (((Orb.cx o (t - d) : Nat) : Int) : Int)) (v' := .int .i64 (((Orb.cy o (t - d) : Nat) : Int) : Int)) (ex_store (p := .pointer (some ⟨O5, 0, none⟩)) (v := .agg #[.int .i64 (((Orb.cx o (t - d) : Nat) : Int) : Int), .int .i64 (((Orb.cy o (t - d) : Nat) : Int) : Int)]) rfl (by kernel_rfl) (by kernel_rfl) (st57 bO5_t29.1 bO5_t29.2 bO5_t30.1 bO5_t30.2)) bO5_t29 bO5_t30 ?_)
  intro X21 ho hv0 hv1 hk
  replace hE := ho.ext hE (T hs3 (Nat.le_of_eq hzO5)); replace bO1_t22 := ho.box (Nat.ne_of_gt (Nat.lt_of_lt_of_le lt4 (Nat.le_of_eq hzO5))) bO1_t22; replace bO1_t23 := ho.box (Nat.ne_of_gt (Nat.lt_of_lt_of_le lt4 (Nat.le_of_eq hzO5))) bO1_t23; replace bO1_t24 := ho.box (Nat.ne_of_gt (Nat.lt_of_lt_of_le lt4 (Nat.le_of_eq hzO5))) bO1_t24; replace bO1_t25 := ho.box (Nat.ne_of_gt (Nat.lt_of_lt_of_le lt4 (Nat.le_of_eq hzO5))) bO1_t25; replace bO1_t26 := ho.box (Nat.ne_of_gt (Nat.lt_of_lt_of_le lt4 (Nat.le_of_eq hzO5))) bO1_t26; replace bO1_t27 := ho.box (Nat.ne_of_gt (Nat.lt_of_lt_of_le lt4 (Nat.le_of_eq hzO5))) bO1_t27; replace bO1_t28 := ho.box (Nat.ne_of_gt (Nat.lt_of_lt_of_le lt4 (Nat.le_of_eq hzO5))) bO1_t28; replace bO12_t31 := ho.box (Nat.ne_of_lt (Nat.lt_of_lt_of_le lt8 (T hs11 (Nat.le_of_eq hzO12)))) bO12_t31; replace bO12_t32 := ho.box (Nat.ne_of_lt (Nat.lt_of_lt_of_le lt8 (T hs11 (Nat.le_of_eq hzO12)))) bO12_t32; replace bO12_t33 := ho.box (Nat.ne_of_lt (Nat.lt_of_lt_of_le lt8 (T hs11 (Nat.le_of_eq hzO12)))) bO12_t33; replace bO12_t34 := ho.box (Nat.ne_of_lt (Nat.lt_of_lt_of_le lt8 (T hs11 (Nat.le_of_eq hzO12)))) bO12_t34; replace bO12_t35 := ho.box (Nat.ne_of_lt (Nat.lt_of_lt_of_le lt8 (T hs11 (Nat.le_of_eq hzO12)))) bO12_t35; replace bO12_t36 := ho.box (Nat.ne_of_lt (Nat.lt_of_lt_of_le lt8 (T hs11 (Nat.le_of_eq hzO12)))) bO12_t36; replace bO12_t37 := ho.box (Nat.ne_of_lt (Nat.lt_of_lt_of_le lt8 (T hs11 (Nat.le_of_eq hzO12)))) bO12_t37; replace bO12_t38 := ho.box (Nat.ne_of_lt (Nat.lt_of_lt_of_le lt8 (T hs11 (Nat.le_of_eq hzO12)))) bO12_t38
  have hs39 : w19.heap.size ≤ X21.heap.size := Nat.le_of_eq ho.size.symm
  clear ho hk bO5_t29 bO5_t30
  have bO5_t29 := hv0; clear hv0
  have bO5_t30 := hv1; clear hv1
  refine pT (.int .i64 0) ?_
  refine pl_nil ?_; refine qw_then ?_
  refine cw_ret ?_
  refine qw_ret [.agg #[.int .i64 (((Orb.cx o (t - d) : Nat) : Int) : Int), .int .i64 (((Orb.cy o (t - d) : Nat) : Int) : Int)], .int .i64 0] rfl ⟨⟨_, by kernel_rfl, res_ld (ld57 (bO5_t29.1) (bO5_t30.1))⟩, (by kernel_rfl), trivial⟩ ?_
  exact ⟨rfl, hE⟩
set_option maxRecDepth 1000000 in
set_option maxHeartbeats 4000000 in
theorem At_n (o : Orb) (t d : Int) (w : World) (hat : Orb.atB o t d = false) : Calls Try.prog 28 #[.agg #[.int .i64 o.p, .int .i64 o.f, .int .i64 o.lo, .int .i64 o.hi, .int .i64 o.nd, .int .i64 o.tn, .int .i64 o.sl], .int .i64 t, .int .i64 d] w fun e w' => e = .returned (.tuple #[.agg #[.int .i64 0, .int .i64 0], .int .i64 70]) ∧ Ext w w' := by
  refine calls_cw 22 [(2, .int .i64 d), (1, .int .i64 t), (0, .agg #[.int .i64 o.p, .int .i64 o.f, .int .i64 o.lo, .int .i64 o.hi, .int .i64 o.nd, .int .i64 o.tn, .int .i64 o.sl])] Try.func28 rfl Try.ntmps28 (by kernel_rfl) (by kernel_rfl) (fun L => ?_)
  have hE : Ext w w := Ext.refl w
  refine cw_seq ?_; refine cw_plain ?_
  refine pS (sn_new (us := #[.int .i64 o.p, .int .i64 o.f, .int .i64 o.lo, .int .i64 o.hi, .int .i64 o.nd, .int .i64 o.tn, .int .i64 o.sl]) (t := 24) (by kernel_rfl) ?_)
  intro O1 X2 hO hOs hb hbx
  have hzO1 := hO; have hyO1 := hOs; clear hO hOs
  have bO1_0 : BoxAt X2 O1 0 (.int .i64 o.p) := hbx 0 _ rfl
  have bO1_1 : BoxAt X2 O1 1 (.int .i64 o.f) := hbx 1 _ rfl
  have bO1_2 : BoxAt X2 O1 2 (.int .i64 o.lo) := hbx 2 _ rfl
  have bO1_3 : BoxAt X2 O1 3 (.int .i64 o.hi) := hbx 3 _ rfl
  have bO1_4 : BoxAt X2 O1 4 (.int .i64 o.nd) := hbx 4 _ rfl
  have bO1_5 : BoxAt X2 O1 5 (.int .i64 o.tn) := hbx 5 _ rfl
  have bO1_6 : BoxAt X2 O1 6 (.int .i64 o.sl) := hbx 6 _ rfl
  clear hbx; replace hE := hE.trans hb; have hs3 := hb.size; clear hb; have lt4 := bO1_0.lt
  refine pS (sn_new (us := #[.int .i64 0, .int .i64 0]) (t := 57) (by kernel_rfl) ?_)
  intro O5 X6 hO hOs hb hbx
  have hzO5 := hO; have hyO5 := hOs; clear hO hOs
  have bO5_0 : BoxAt X6 O5 0 (.int .i64 0) := hbx 0 _ rfl
  have bO5_1 : BoxAt X6 O5 1 (.int .i64 0) := hbx 1 _ rfl
  clear hbx; replace hE := hE.trans hb; replace bO1_0 := BoxAt.ext hb bO1_0; replace bO1_1 := BoxAt.ext hb bO1_1; replace bO1_2 := BoxAt.ext hb bO1_2; replace bO1_3 := BoxAt.ext hb bO1_3; replace bO1_4 := BoxAt.ext hb bO1_4; replace bO1_5 := BoxAt.ext hb bO1_5; replace bO1_6 := BoxAt.ext hb bO1_6; have hs7 := hb.size; clear hb; have lt8 := bO5_0.lt
  refine pT (.int .i64 0) ?_
  refine pl_nil ?_; refine qw_then ?_; refine cw_seq ?_
  have hX9 : Ext X6 X6 := Ext.refl _
  refine cw_plain ?_
  refine pl_take (.agg #[.int .i64 o.p, .int .i64 o.f, .int .i64 o.lo, .int .i64 o.hi, .int .i64 o.nd, .int .i64 o.tn, .int .i64 o.sl]) rfl (by kernel_rfl) (by kernel_rfl) (by kernel_rfl) (ex_load rfl (by kernel_rfl) (ld24 (bO1_0.1) (bO1_1.1) (bO1_2.1) (bO1_3.1) (bO1_4.1) (bO1_5.1) (bO1_6.1))) ?_
  refine pT (.int .i64 t) ?_
  refine pT (.int .i64 d) ?_
  refine pS (sn_call (f := 63) (args := #[.agg #[.int .i64 o.p, .int .i64 o.f, .int .i64 o.lo, .int .i64 o.hi, .int .i64 o.nd, .int .i64 o.tn, .int .i64 o.sl], .int .i64 t, .int .i64 d]) (by kernel_rfl) ((at_n o t d _ (hat)).mono ?_))
  rintro e w11 ⟨m10, rfl, hb⟩
  replace hE := hE.trans hb; replace hX9 := hX9.trans hb; have hs12 := hb.size; clear hb
  refine ⟨_, rfl, ?_⟩
  refine pT (.tuple #[.agg #[.int .i64 o.p, .int .i64 o.f, .int .i64 o.lo, .int .i64 o.hi, .int .i64 o.nd, .int .i64 o.tn, .int .i64 o.sl, .int .i64 m10], .bool false]) ?_
  refine pT (.agg #[.int .i64 o.p, .int .i64 o.f, .int .i64 o.lo, .int .i64 o.hi, .int .i64 o.nd, .int .i64 o.tn, .int .i64 o.sl, .int .i64 m10]) ?_
  refine pT (.bool false) ?_
  refine pS (sn_new (us := #[.int .i64 0, .int .i64 0, .int .i64 0, .int .i64 0, .int .i64 0, .int .i64 0, .int .i64 0, .int .i64 0]) (t := 96) (by kernel_rfl) ?_)
  intro O13 X14 hO hOs hb hbx
  have hzO13 := hO; have hyO13 := hOs; clear hO hOs
  have bO13_0 : BoxAt X14 O13 0 (.int .i64 0) := hbx 0 _ rfl
  have bO13_1 : BoxAt X14 O13 1 (.int .i64 0) := hbx 1 _ rfl
  have bO13_2 : BoxAt X14 O13 2 (.int .i64 0) := hbx 2 _ rfl
  have bO13_3 : BoxAt X14 O13 3 (.int .i64 0) := hbx 3 _ rfl
  have bO13_4 : BoxAt X14 O13 4 (.int .i64 0) := hbx 4 _ rfl
  have bO13_5 : BoxAt X14 O13 5 (.int .i64 0) := hbx 5 _ rfl
  have bO13_6 : BoxAt X14 O13 6 (.int .i64 0) := hbx 6 _ rfl
  have bO13_7 : BoxAt X14 O13 7 (.int .i64 0) := hbx 7 _ rfl
  clear hbx; replace hE := hE.trans hb; replace hX9 := hX9.trans hb; have hs15 := hb.size; clear hb; have lt16 := bO13_0.lt
  refine pl_put rfl (by kernel_rfl) (by kernel_rfl) (sn_setK8 (O := O13) (j := 0) (v0 := .int .i64 o.p) (v1 := .int .i64 o.f) (v2 := .int .i64 o.lo) (v3 := .int .i64 o.hi) (v4 := .int .i64 o.nd) (v5 := .int .i64 o.tn) (v6 := .int .i64 o.sl) (v7 := .int .i64 m10) (ex_store (p := .pointer (some ⟨O13, 0, none⟩)) (v := .agg #[.int .i64 o.p, .int .i64 o.f, .int .i64 o.lo, .int .i64 o.hi, .int .i64 o.nd, .int .i64 o.tn, .int .i64 o.sl, .int .i64 m10]) rfl (by kernel_rfl) (by kernel_rfl) (st96 bO13_0.1 bO13_0.2 bO13_1.1 bO13_1.2 bO13_2.1 bO13_2.2 bO13_3.1 bO13_3.2 bO13_4.1 bO13_4.2 bO13_5.1 bO13_5.2 bO13_6.1 bO13_6.2 bO13_7.1 bO13_7.2)) bO13_0 bO13_1 bO13_2 bO13_3 bO13_4 bO13_5 bO13_6 bO13_7 ?_)
  intro X17 ho hv0 hv1 hv2 hv3 hv4 hv5 hv6 hv7 hk
  replace hE := ho.ext hE (T (T hs3 (T hs7 hs12)) (Nat.le_of_eq hzO13)); replace hX9 := ho.ext hX9 (T hs12 (Nat.le_of_eq hzO13))
  have hs18 : X14.heap.size ≤ X17.heap.size := Nat.le_of_eq ho.size.symm
  clear ho hk bO13_0 bO13_1 bO13_2 bO13_3 bO13_4 bO13_5 bO13_6 bO13_7
  have bO13_0 := hv0; clear hv0
  have bO13_1 := hv1; clear hv1
  have bO13_2 := hv2; clear hv2
  have bO13_3 := hv3; clear hv3
  have bO13_4 := hv4; clear hv4
  have bO13_5 := hv5; clear hv5
  have bO13_6 := hv6; clear hv6
  have bO13_7 := hv7; clear hv7
  refine pT (.bool false) ?_
  refine pl_nil ?_; refine qw_then ?_
  refine cw_clean [6, 8, 9] (ws' := [(6, .pointer (some ⟨O5, 0, none⟩)), (8, .pointer (some ⟨O13, 0, none⟩)), (9, .bool false)]) (by kernel_rfl) (fun L => ?_)
  refine cw_seq ?_; refine cw_seq ?_
  have hX19 : Ext X17 X17 := Ext.refl _
  refine cw_plain ?_
  refine pT (.bool false) ?_
  refine pT (.bool true) ?_
  refine pl_nil ?_; refine qw_then ?_
  refine cw_t (by kernel_rfl) ?_
  refine cw_seq ?_; refine cw_plain ?_
  refine pT (.agg #[.int .i64 0, .int .i64 0]) ?_
  have bO1_t21 := (BoxAt.ext (hX9.trans hX19) bO1_0)
  have bO1_t22 := (BoxAt.ext (hX9.trans hX19) bO1_1)
  have bO1_t23 := (BoxAt.ext (hX9.trans hX19) bO1_2)
  have bO1_t24 := (BoxAt.ext (hX9.trans hX19) bO1_3)
  have bO1_t25 := (BoxAt.ext (hX9.trans hX19) bO1_4)
  have bO1_t26 := (BoxAt.ext (hX9.trans hX19) bO1_5)
  have bO1_t27 := (BoxAt.ext (hX9.trans hX19) bO1_6)
  have bO5_t28 := (BoxAt.ext (hX9.trans hX19) bO5_0)
  have bO5_t29 := (BoxAt.ext (hX9.trans hX19) bO5_1)
  have bO13_t30 := bO13_0
  have bO13_t31 := bO13_1
  have bO13_t32 := bO13_2
  have bO13_t33 := bO13_3
  have bO13_t34 := bO13_4
  have bO13_t35 := bO13_5
  have bO13_t36 := bO13_6
  have bO13_t37 := bO13_7
  refine pl_put rfl (by kernel_rfl) (by kernel_rfl) (sn_set2 (O := O5) (j := 0) (v := .int .i64 0) (v' := .int .i64 0) (ex_store (p := .pointer (some ⟨O5, 0, none⟩)) (v := .agg #[.int .i64 0, .int .i64 0]) rfl (by kernel_rfl) (by kernel_rfl) (st57 bO5_t28.1 bO5_t28.2 bO5_t29.1 bO5_t29.2)) bO5_t28 bO5_t29 ?_)
  intro X20 ho hv0 hv1 hk
  replace hE := ho.ext hE (T hs3 (Nat.le_of_eq hzO5)); replace bO1_t21 := ho.box (Nat.ne_of_gt (Nat.lt_of_lt_of_le lt4 (Nat.le_of_eq hzO5))) bO1_t21; replace bO1_t22 := ho.box (Nat.ne_of_gt (Nat.lt_of_lt_of_le lt4 (Nat.le_of_eq hzO5))) bO1_t22; replace bO1_t23 := ho.box (Nat.ne_of_gt (Nat.lt_of_lt_of_le lt4 (Nat.le_of_eq hzO5))) bO1_t23; replace bO1_t24 := ho.box (Nat.ne_of_gt (Nat.lt_of_lt_of_le lt4 (Nat.le_of_eq hzO5))) bO1_t24; replace bO1_t25 := ho.box (Nat.ne_of_gt (Nat.lt_of_lt_of_le lt4 (Nat.le_of_eq hzO5))) bO1_t25; replace bO1_t26 := ho.box (Nat.ne_of_gt (Nat.lt_of_lt_of_le lt4 (Nat.le_of_eq hzO5))) bO1_t26; replace bO1_t27 := ho.box (Nat.ne_of_gt (Nat.lt_of_lt_of_le lt4 (Nat.le_of_eq hzO5))) bO1_t27; replace bO13_t30 := ho.box (Nat.ne_of_lt (Nat.lt_of_lt_of_le lt8 (T hs12 (Nat.le_of_eq hzO13)))) bO13_t30; replace bO13_t31 := ho.box (Nat.ne_of_lt (Nat.lt_of_lt_of_le lt8 (T hs12 (Nat.le_of_eq hzO13)))) bO13_t31; replace bO13_t32 := ho.box (Nat.ne_of_lt (Nat.lt_of_lt_of_le lt8 (T hs12 (Nat.le_of_eq hzO13)))) bO13_t32; replace bO13_t33 := ho.box (Nat.ne_of_lt (Nat.lt_of_lt_of_le lt8 (T hs12 (Nat.le_of_eq hzO13)))) bO13_t33; replace bO13_t34 := ho.box (Nat.ne_of_lt (Nat.lt_of_lt_of_le lt8 (T hs12 (Nat.le_of_eq hzO13)))) bO13_t34; replace bO13_t35 := ho.box (Nat.ne_of_lt (Nat.lt_of_lt_of_le lt8 (T hs12 (Nat.le_of_eq hzO13)))) bO13_t35; replace bO13_t36 := ho.box (Nat.ne_of_lt (Nat.lt_of_lt_of_le lt8 (T hs12 (Nat.le_of_eq hzO13)))) bO13_t36; replace bO13_t37 := ho.box (Nat.ne_of_lt (Nat.lt_of_lt_of_le lt8 (T hs12 (Nat.le_of_eq hzO13)))) bO13_t37
  have hs38 : X17.heap.size ≤ X20.heap.size := Nat.le_of_eq ho.size.symm
  clear ho hk bO5_t28 bO5_t29
  have bO5_t28 := hv0; clear hv0
  have bO5_t29 := hv1; clear hv1
  refine pT (.int .i64 70) ?_
  refine pl_nil ?_; refine qw_then ?_
  refine cw_ret ?_
  refine qw_then_ret ?_
  refine qw_ret [.agg #[.int .i64 0, .int .i64 0], .int .i64 70] rfl ⟨⟨_, by kernel_rfl, res_ld (ld57 (bO5_t28.1) (bO5_t29.1))⟩, (by kernel_rfl), trivial⟩ ?_
  exact ⟨rfl, hE⟩

end Go.Proofs.Ytdjjkhefdalokaa

/- How many cells an area has; distances of cells. Plain mathematics. -/
namespace Go.Proofs.Ytdjjkhefdalokaa
namespace Globe

def allCells (n : Nat) : List (Nat × Nat) := (List.range n).flatMap fun y => (List.range 48).map fun x => (x, y)
theorem cellsTo_filter (l : List Int) (n : Nat) : cellsTo l n = (allCells n).filter fun p => hasL l p.1 p.2 := by
  unfold cellsTo allCells
  rw [List.filter_flatMap]
  congr 1
  funext y
  unfold rowCells bitsN
  rw [List.filter_map]
  rfl
theorem mem_all {n : Nat} {p : Nat × Nat} : p ∈ allCells n ↔ p.1 < 48 ∧ p.2 < n := by
  obtain ⟨x, y⟩ := p
  simp only [allCells, List.mem_flatMap, List.mem_range, List.mem_map, Prod.mk.injEq]
  constructor
  · rintro ⟨y', hy, x', hx, rfl, rfl⟩; exact ⟨hx, hy⟩
  · rintro ⟨hx, hy⟩; exact ⟨y, hy, x, hx, rfl, rfl⟩
theorem count_eq (l : List Int) (n : Nat) : (cellsTo l n).length = (allCells n).countP fun p => hasL l p.1 p.2 := by
  rw [cellsTo_filter, List.countP_eq_length_filter]
theorem countP_incl {α : Type} (p q : α → Bool) (l : List α) : (l.countP fun a => p a || q a) + (l.countP fun a => p a && q a) = l.countP p + l.countP q := by
  induction l with
  | nil => rfl
  | cons a l ih =>
    simp only [List.countP_cons]
    cases p a <;> cases q a <;> simp <;> omega
theorem countP_diff {α : Type} (p q : α → Bool) (l : List α) : (l.countP fun a => p a && !q a) + (l.countP fun a => p a && q a) = l.countP p := by
  induction l with
  | nil => rfl
  | cons a l ih =>
    simp only [List.countP_cons]
    cases p a <;> cases q a <;> simp <;> omega
theorem countP_congr' {α : Type} {p q : α → Bool} {l : List α} (h : ∀ a ∈ l, p a = q a) : l.countP p = l.countP q := by
  rw [List.countP_eq_length_filter, List.countP_eq_length_filter, List.filter_congr h]
theorem count_congr {a : List Int} {q : Nat × Nat → Bool} (h : ∀ x y, x < 48 → y < 24 → hasL a x y = q (x, y)) : (cellsTo a 24).length = (allCells 24).countP q := by
  rw [count_eq]
  exact countP_congr' fun p hp => h p.1 p.2 (mem_all.1 hp).1 (mem_all.1 hp).2
theorem count_union (a b : List Int) : (cellsTo (unionL a b) 24).length + (cellsTo (meetL a b) 24).length = (cellsTo a 24).length + (cellsTo b 24).length := by
  rw [count_congr (a := unionL a b) (q := fun p => hasL a p.1 p.2 || hasL b p.1 p.2) fun x y _ hy => has_union hy,
    count_congr (a := meetL a b) (q := fun p => hasL a p.1 p.2 && hasL b p.1 p.2) fun x y _ hy => has_meet hy, countP_incl, count_eq, count_eq]
theorem count_less (a b : List Int) : (cellsTo (lessL a b) 24).length + (cellsTo (meetL a b) 24).length = (cellsTo a 24).length := by
  rw [count_congr (a := lessL a b) (q := fun p => hasL a p.1 p.2 && !hasL b p.1 p.2) fun x y _ hy => has_less hy,
    count_congr (a := meetL a b) (q := fun p => hasL a p.1 p.2 && hasL b p.1 p.2) fun x y _ hy => has_meet hy, countP_diff, count_eq]

/-- The empty area. -/
theorem count_zero_iff {l : List Int} (h : validL l = true) : (cellsTo l 24).length = 0 ↔ l = zeroL := by
  constructor
  · intro e
    have e' : cellsTo l 24 = [] := List.length_eq_zero_iff.1 e
    refine ext_has h valid_zero fun x y hx hy => ?_
    rw [has_zero]
    cases hh : hasL l x y
    · rfl
    · have := (mem_cells (n := 24) (p := (x, y))).2 ⟨hy, hx, hh⟩
      rw [e'] at this
      cases this
  · rintro rfl
    rw [count_eq]
    rw [List.countP_eq_zero]
    intro p _
    rw [has_zero]; simp

/-- Whether an area has all cells of another one. -/
def containsB (a b : List Int) : Bool := validL a && validL b && decide (lessL b a = zeroL)
theorem contains_iff {a b : List Int} (ha : validL a = true) (hb : validL b = true) : containsB a b = true ↔ ∀ x y, x < 48 → y < 24 → hasL b x y = true → hasL a x y = true := by
  unfold containsB
  rw [ha, hb]
  simp only [Bool.true_and, decide_eq_true_eq]
  constructor
  · intro e x y hx hy h
    have := has_less (a := b) (b := a) (x := x) hy
    rw [e, has_zero, h] at this
    simpa using this
  · intro h
    refine ext_has (less_valid hb) valid_zero fun x y hx hy => ?_
    rw [has_zero, has_less hy]
    cases hh : hasL b x y
    · rfl
    · rw [h x y hx hy hh]; rfl
theorem contains_count {a b : List Int} (ha : validL a = true) (hb : validL b = true) : containsB a b = decide ((cellsTo (meetL a b) 24).length = (cellsTo b 24).length) := by
  have h1 := count_less b a
  have h2 : (cellsTo (meetL b a) 24).length = (cellsTo (meetL a b) 24).length := by
    rw [count_congr (a := meetL b a) (q := fun p => hasL a p.1 p.2 && hasL b p.1 p.2) fun x y _ hy => by rw [has_meet hy, Bool.and_comm],
      count_congr (a := meetL a b) (q := fun p => hasL a p.1 p.2 && hasL b p.1 p.2) fun x y _ hy => has_meet hy]
  have h3 := count_zero_iff (less_valid (b := a) hb)
  unfold containsB
  rw [ha, hb, Bool.true_and, Bool.true_and, Bool.eq_iff_iff, decide_eq_true_eq, decide_eq_true_eq, ← h3]
  omega

/-! Shifting keeps the number of cells. -/
theorem rot_map {k : Nat} (hk : k < 48) : (List.range 48).map (fun x => (x + 48 - k) % 48) = (List.range k).map (48 - k + ·) ++ List.range (48 - k) := by
  have e : List.range 48 = List.range k ++ (List.range (48 - k)).map (k + ·) := by rw [← List.range_add]; congr 1; omega
  rw [e, List.map_append, List.map_map]
  congr 1
  · exact List.map_congr_left fun x hx => by have := List.mem_range.1 hx; omega
  · conv => rhs; rw [← List.map_id (List.range (48 - k))]
    exact List.map_congr_left fun x hx => by have := List.mem_range.1 hx; simp only [Function.comp, id]; omega
theorem countP_rot (q : Nat → Bool) {k : Nat} (hk : k < 48) : ((List.range 48).countP fun x => q ((x + 48 - k) % 48)) = (List.range 48).countP q := by
  have e1 : ((List.range 48).countP fun x => q ((x + 48 - k) % 48)) = ((List.range 48).map (fun x => (x + 48 - k) % 48)).countP q := by rw [List.countP_map]; rfl
  have e2 : List.range 48 = List.range (48 - k) ++ (List.range k).map (48 - k + ·) := by rw [← List.range_add]; congr 1; omega
  rw [e1, rot_map hk]
  conv => rhs; rw [e2]
  rw [List.countP_append, List.countP_append]
  omega
theorem countP_all (q : Nat × Nat → Bool) : ∀ n, (allCells n).countP q = ((List.range n).map fun y => (List.range 48).countP fun x => q (x, y)).sum
  | 0 => rfl
  | n + 1 => by
    have := countP_all q n
    unfold allCells at this ⊢
    rw [List.range_succ (n := n), List.flatMap_append, List.countP_append, this, List.map_append, List.sum_append]
    simp [List.countP_map, Function.comp_def]
theorem count_shift {l : List Int} (hl : validL l = true) {k : Nat} (hk : k < 48) : (cellsTo (shiftL l k) 24).length = (cellsTo l 24).length := by
  rw [count_congr (a := shiftL l k) (q := fun p => hasL l ((p.1 + 48 - k) % 48) p.2) fun x y hx hy => has_shift hl hk hx hy, count_eq, countP_all, countP_all]
  congr 1
  exact List.map_congr_left fun y _ => countP_rot (fun x => hasL l x y) hk

/-- How many numbers below n are less than w. -/
theorem countP_lt (w : Nat) : ∀ n, ((List.range n).countP fun x => decide (x < w)) = min w n
  | 0 => by simp
  | n + 1 => by
    rw [List.range_succ, List.countP_append, countP_lt w n]
    by_cases h : n < w
    · simp [h]; omega
    · simp [h]; omega
theorem sum_from (c w : Nat) : ∀ (n cy h : Nat), cy + h ≤ n → ((List.range n).map fun y => if cy ≤ y ∧ y < cy + h then w else 0).sum = w * h
  | 0, cy, h, e => by
    obtain rfl : h = 0 := by omega
    simp
  | n + 1, cy, h, e => by
    rw [List.range_succ, List.map_append, List.sum_append]
    by_cases e2 : cy + h ≤ n
    · rw [sum_from c w n cy h e2]
      simp only [List.map_cons, List.map_nil, List.sum_cons, List.sum_nil]
      rw [if_neg (by omega)]; omega
    · cases h with
      | zero =>
        have : ∀ y, (if cy ≤ y ∧ y < cy + 0 then w else 0) = 0 := fun y => if_neg (by omega)
        simp only [this]
        have z : ∀ m : Nat, ((List.range m).map fun _ => 0).sum = 0 := fun m => by induction m with
          | zero => rfl
          | succ m ih => rw [List.range_succ, List.map_append, List.sum_append, ih]; rfl
        rw [z]; simp
      | succ h =>
        have e3 : cy + h = n := by omega
        have e4 : ((List.range n).map fun y => if cy ≤ y ∧ y < cy + (h + 1) then w else 0) = ((List.range n).map fun y => if cy ≤ y ∧ y < cy + h then w else 0) :=
          List.map_congr_left fun y hy => by
            have := List.mem_range.1 hy
            by_cases c : cy ≤ y
            · rw [if_pos ⟨c, by omega⟩, if_pos ⟨c, by omega⟩]
            · rw [if_neg (by omega), if_neg (by omega)]
        rw [e4, sum_from c w n cy h (by omega)]
        simp only [List.map_cons, List.map_nil, List.sum_cons, List.sum_nil]
        rw [if_pos (by omega), Nat.mul_succ]; omega
theorem count_box {cx cy wide high : Nat} (hc : cx < 48) (hw : wide ≤ 48) (hh : cy + high ≤ 24) : (cellsTo (boxL cx cy wide high) 24).length = wide * high := by
  rw [count_congr (a := boxL cx cy wide high) (q := fun p => decide (cy ≤ p.2 ∧ p.2 < cy + high) && decide ((p.1 + 48 - cx) % 48 < wide)) fun x y hx hy => has_box hc hw hx hy, countP_all]
  rw [← sum_from 0 wide 24 cy high hh]
  congr 1
  refine List.map_congr_left fun y _ => ?_
  dsimp only
  by_cases e : cy ≤ y ∧ y < cy + high
  · rw [if_pos e]
    have := countP_rot (fun x => decide (x < wide)) hc
    rw [countP_lt] at this
    rw [Nat.min_eq_left hw] at this
    rw [show (fun p => decide (cy ≤ y ∧ y < cy + high) && decide ((p + 48 - cx) % 48 < wide)) = fun p => decide ((p + 48 - cx) % 48 < wide) from funext fun p => by simp [e]]
    exact this
  · rw [if_neg e, List.countP_eq_zero]
    intro x _
    simp only [Bool.and_eq_true, decide_eq_true_eq]
    exact fun h => e h.1

end Globe
end Go.Proofs.Ytdjjkhefdalokaa

/- What an exposure shows. -/
namespace Go.Proofs.Ytdjjkhefdalokaa
namespace Globe
theorem ext24 {a b : List Int} (h1 : a.length = 24) (h2 : b.length = 24) (h : ∀ y, y < 24 → nth a y = nth b y) : a = b :=
  List.ext_getElem (by omega) fun y k1 k2 => by
    have := h y (by omega)
    rwa [nth_lt k1, nth_lt k2] at this
theorem rowsF_id {L : List Int} (h : validL L = true) : rowsF (fun y => rowN L y) = L :=
  ext24 (rowsF_len _) (len_of_valid h) fun y hy => by rw [nth_rowsF _ hy, ← rowN_cast h]
/-- Two areas, combined in the first i rows. -/
def mixL (f : Nat → Nat → Nat) (L M : List Int) (i : Nat) : List Int := rowsF fun y => if y < i then f (rowN L y) (rowN M y) else rowN L y
theorem mix_0 {f : Nat → Nat → Nat} {L M : List Int} (h : validL L = true) : mixL f L M 0 = L := by
  unfold mixL
  simp only [Nat.not_lt_zero, if_false]
  exact rowsF_id h
theorem mix_len (f : Nat → Nat → Nat) (L M : List Int) (i : Nat) : (mixL f L M i).length = 24 := rowsF_len _
theorem mix_nth (f : Nat → Nat → Nat) (L M : List Int) (i : Nat) {y : Nat} (hy : y < 24) : nth (mixL f L M i) y = (((if y < i then f (rowN L y) (rowN M y) else rowN L y) : Nat) : Int) := nth_rowsF _ hy
theorem mix_24 (f : Nat → Nat → Nat) (L M : List Int) : mixL f L M 24 = rowsF fun y => f (rowN L y) (rowN M y) :=
  ext24 (mix_len _ _ _ _) (rowsF_len _) fun y hy => by rw [mix_nth _ _ _ _ hy, nth_rowsF _ hy, if_pos hy]
theorem mix_row {f : Nat → Nat → Nat} {L M : List Int} {i : Nat} (hi : i < 24) : rowN (mixL f L M i) i = rowN L i := by
  show (nth (mixL f L M i) i).toNat = rowN L i
  rw [mix_nth _ _ _ _ hi, if_neg (Nat.lt_irrefl i), Int.toNat_natCast]
theorem mix_succ {f : Nat → Nat → Nat} {L M : List Int} {i : Nat} (hi : i < 24) : (mixL f L M i).set i ((f (rowN (mixL f L M i) i) (rowN M i) : Nat) : Int) = mixL f L M (i + 1) := by
  rw [mix_row hi]
  refine ext24 (by rw [List.length_set, mix_len]) (mix_len _ _ _ _) fun y hy => ?_
  rw [nth_set _ (by rw [mix_len]; exact hi), mix_nth _ _ _ _ hy]
  rw [mix_nth _ _ _ _ hy]
  by_cases e : i = y
  · subst e; rw [if_pos rfl, if_pos (by omega)]
  · rw [if_neg e]
    by_cases h : y < i
    · rw [if_pos h, if_pos (by omega)]
    · rw [if_neg h, if_neg (by omega)]
theorem mix_valid {f : Nat → Nat → Nat} (hf : ∀ p q, p < 281474976710656 → q < 281474976710656 → f p q < 281474976710656) {L M : List Int} (hL : validL L = true) (hM : validL M = true) (i : Nat) : validL (mixL f L M i) = true :=
  rowsF_valid fun y _ => by
    by_cases h : y < i
    · rw [if_pos h]; exact hf _ _ (rowN_lt hL y) (rowN_lt hM y)
    · rw [if_neg h]; exact rowN_lt hL y
def and8 (p q : Nat) : Nat := p &&& q
def or8 (p q : Nat) : Nat := p ||| q
theorem and8_lt (p q : Nat) (h : p < 281474976710656) (_ : q < 281474976710656) : and8 p q < 281474976710656 := Nat.lt_of_le_of_lt Nat.and_le_left h
theorem or8_lt (p q : Nat) (h : p < 281474976710656) (k : q < 281474976710656) : or8 p q < 281474976710656 := Nat.or_lt_two_pow (n := 48) h k
end Globe
namespace Swath
open Globe
def spB (s : Int × Int) (most : Int) : Bool := decide (0 ≤ s.1) && decide (s.1 < s.2) && decide (s.2 ≤ 1000001) && decide (s.2 - s.1 ≤ most)
theorem spB_t {s : Int × Int} {most : Int} : spB s most = true ↔ 0 ≤ s.1 ∧ s.1 < s.2 ∧ s.2 ≤ 1000001 ∧ s.2 - s.1 ≤ most := by
  unfold spB; simp [and_assoc]
/-- Is an exposure valid? -/
def shB (o : Orb) (s : Int × Int) (l : Int) : Bool := Orb.ok o && spB s 60 && inB l (-4) 4
theorem shB_t {o : Orb} {s : Int × Int} {l : Int} : shB o s l = true ↔ Orb.ok o = true ∧ (0 ≤ s.1 ∧ s.1 < s.2 ∧ s.2 ≤ 1000001 ∧ s.2 - s.1 ≤ 60) ∧ -4 ≤ l ∧ l ≤ 4 := by
  unfold shB; simp only [Bool.and_eq_true, spB_t, inB_t, and_assoc]
/-- The column that is shown. -/
def sx (o : Orb) (l u : Int) : Nat := (((Orb.cx o u : Int) + l + 48) % 48).toNat
theorem sx_lt (o : Orb) (l u : Int) : sx o l u < 48 := by unfold sx; omega
theorem sx_z (o : Orb) (l u : Int) : ((Orb.cx o u : Int) + l + 48) % 48 = (sx o l u : Int) := by unfold sx; omega
/-- What is shown from u on, for n minutes. -/
def showL (o : Orb) (l u : Int) : Nat → List Int
  | 0 => zeroL
  | n + 1 => putL (showL o l u n) (sx o l (u + n)) (Orb.cy o (u + n))
theorem show_valid {o : Orb} (h : Orb.ok o = true) (l u : Int) : ∀ n, validL (showL o l u n) = true
  | 0 => show validL zeroL = true by decide
  | n + 1 => valid_put (show_valid h l u n) (sx_lt _ _ _)
/-- What all of the first areas have; what one of them has. -/
def foldM (A : Nat → List Int) : Nat → List Int
  | 0 => zeroL
  | 1 => A 0
  | k + 2 => meetL (foldM A (k + 1)) (A (k + 1))
def foldU (A : Nat → List Int) : Nat → List Int
  | 0 => zeroL
  | 1 => A 0
  | k + 2 => unionL (foldU A (k + 1)) (A (k + 1))
theorem foldM_succ {A : Nat → List Int} {i : Nat} (h : 0 < i) : foldM A (i + 1) = meetL (foldM A i) (A i) := by
  obtain ⟨k, rfl⟩ : ∃ k, i = k + 1 := ⟨i - 1, by omega⟩
  rfl
theorem foldU_succ {A : Nat → List Int} {i : Nat} (h : 0 < i) : foldU A (i + 1) = unionL (foldU A i) (A i) := by
  obtain ⟨k, rfl⟩ : ∃ k, i = k + 1 := ⟨i - 1, by omega⟩
  rfl
theorem foldM_valid {A : Nat → List Int} (h : ∀ i, validL (A i) = true) : ∀ i, validL (foldM A i) = true
  | 0 => show validL zeroL = true by decide
  | 1 => h 0
  | k + 2 => meet_valid (foldM_valid h (k + 1))
theorem foldU_valid {A : Nat → List Int} (h : ∀ i, validL (A i) = true) : ∀ i, validL (foldU A i) = true
  | 0 => show validL zeroL = true by decide
  | 1 => h 0
  | k + 2 => union_valid (foldU_valid h (k + 1)) (h (k + 1))
/-- What is shown with the j-th delay. -/
def areaJ (o : Orb) (s : Int × Int) (lk : Int) (j : Nat) : List Int := showL o lk (s.1 - (-o.sl + ((j : Nat) : Int))) (s.2 - s.1).toNat
theorem areaJ_valid {o : Orb} (h : Orb.ok o = true) (s : Int × Int) (lk : Int) (j : Nat) : validL (areaJ o s lk j) = true := show_valid h _ _ _
def lates (o : Orb) : Nat := (2 * o.sl + 1).toNat
def sureL (o : Orb) (s : Int × Int) (lk : Int) : List Int := foldM (areaJ o s lk) (lates o)
def canL (o : Orb) (s : Int × Int) (lk : Int) : List Int := foldU (areaJ o s lk) (lates o)
theorem sure_valid {o : Orb} (h : Orb.ok o = true) (s : Int × Int) (lk : Int) : validL (sureL o s lk) = true := foldM_valid (areaJ_valid h s lk) _
theorem can_valid {o : Orb} (h : Orb.ok o = true) (s : Int × Int) (lk : Int) : validL (canL o s lk) = true := foldU_valid (areaJ_valid h s lk) _
def showsB (o : Orb) (s : Int × Int) (lk : Int) (l : List Int) : Bool := shB o s lk && containsB (sureL o s lk) l
end Swath
end Go.Proofs.Ytdjjkhefdalokaa

/- Contracts of package swath: isSpell, Valid, delays, shown. -/
namespace Go.Proofs.Ytdjjkhefdalokaa
open Go.RowKit

/-- What the iterator of shown cells has captured. -/
def ShownAt (w : World) (B1 B2 B3 B4 : Nat) (o : Orb) (s : Int × Int) (l d : Int) : Prop :=
  w.cell? ⟨B1, 0, none⟩ = some (.int .i64 s.1) ∧ w.cell? ⟨B1, 1, none⟩ = some (.int .i64 s.2) ∧ w.cell? ⟨B2, 0, none⟩ = some (.int .i64 o.p) ∧ w.cell? ⟨B2, 1, none⟩ = some (.int .i64 o.f) ∧ w.cell? ⟨B2, 2, none⟩ = some (.int .i64 o.lo) ∧ w.cell? ⟨B2, 3, none⟩ = some (.int .i64 o.hi) ∧
    w.cell? ⟨B2, 4, none⟩ = some (.int .i64 o.nd) ∧ w.cell? ⟨B2, 5, none⟩ = some (.int .i64 o.tn) ∧ w.cell? ⟨B2, 6, none⟩ = some (.int .i64 o.sl) ∧ w.cell? ⟨B3, 0, none⟩ = some (.int .i64 d) ∧ w.cell? ⟨B4, 0, none⟩ = some (.int .i64 l)
set_option maxRecDepth 1000000 in
set_option maxHeartbeats 4000000 in
theorem isSpell_c (s : Int × Int) (m : Int) (w : World) : Calls Try.prog 57 #[.agg #[.int .i64 s.1, .int .i64 s.2], .int .i64 m] w fun e w' => e = .returned (.bool (Swath.spB s m)) ∧ Ext w w' := by
  refine calls_cw 29 [(1, .int .i64 m), (0, .agg #[.int .i64 s.1, .int .i64 s.2])] Try.func57 rfl Try.ntmps57 (by kernel_rfl) (by kernel_rfl) (fun L => ?_)
  have hE : Ext w w := Ext.refl w
  refine cw_seq ?_; refine cw_plain ?_
  refine pS (sn_new (us := #[.int .i64 s.1, .int .i64 s.2]) (t := 26) (by kernel_rfl) ?_)
  intro O1 X2 hO hOs hb hbx
  have hzO1 := hO; have hyO1 := hOs; clear hO hOs
  have bO1_0 : BoxAt X2 O1 0 (.int .i64 s.1) := hbx 0 _ rfl
  have bO1_1 : BoxAt X2 O1 1 (.int .i64 s.2) := hbx 1 _ rfl
  clear hbx; replace hE := hE.trans hb; have hs3 := hb.size; clear hb; have lt4 := bO1_0.lt
  refine pT (.bool false) ?_
  refine pl_nil ?_; refine qw_then ?_; refine cw_seq ?_; refine cw_plain ?_
  refine pT (.pointer (some ⟨O1, 0, none⟩)) ?_
  refine pl_take (.int .i64 s.1) rfl (by kernel_rfl) (by kernel_rfl) (by kernel_rfl) (ex_load rfl (by kernel_rfl) (ld3 (bO1_0.1))) ?_
  by_cases hc5 : (0 : Int) ≤ (s.1 : Int)
  ·
    refine pl_take (.bool true) rfl (by kernel_rfl) (by kernel_rfl) (by kernel_rfl) (ev_dec (show _ = Result.ok (Next.value (Value.bool (decide ((0 : Int) ≤ (s.1 : Int))))) _ from by kernel_rfl) (hc5)) ?_
    refine pT (.bool true) ?_
    refine pT (.pointer (some ⟨O1, 0, none⟩)) ?_
    refine pl_take (.int .i64 s.1) rfl (by kernel_rfl) (by kernel_rfl) (by kernel_rfl) (ex_load rfl (by kernel_rfl) (ld3 (bO1_0.1))) ?_
    refine pT (.pointer (some ⟨O1, 1, none⟩)) ?_
    refine pl_take (.int .i64 s.2) rfl (by kernel_rfl) (by kernel_rfl) (by kernel_rfl) (ex_load rfl (by kernel_rfl) (ld3 (bO1_1.1))) ?_
    by_cases hc6 : (s.1 : Int) < (s.2 : Int)
    ·
      refine pl_take (.bool true) rfl (by kernel_rfl) (by kernel_rfl) (by kernel_rfl) (ev_dec (show _ = Result.ok (Next.value (Value.bool (decide ((s.1 : Int) < (s.2 : Int))))) _ from by kernel_rfl) (hc6)) ?_
      refine pT (.bool true) ?_
      refine pT (.bool true) ?_
      refine pT (.pointer (some ⟨O1, 1, none⟩)) ?_
      refine pl_take (.int .i64 s.2) rfl (by kernel_rfl) (by kernel_rfl) (by kernel_rfl) (ex_load rfl (by kernel_rfl) (ld3 (bO1_1.1))) ?_
      by_cases hc7 : (s.2 : Int) ≤ (1000001 : Int)
      ·
        refine pl_take (.bool true) rfl (by kernel_rfl) (by kernel_rfl) (by kernel_rfl) (ev_dec (show _ = Result.ok (Next.value (Value.bool (decide ((s.2 : Int) ≤ (1000001 : Int))))) _ from by kernel_rfl) (hc7)) ?_
        refine pT (.bool true) ?_
        refine pT (.bool true) ?_
        refine pT (.pointer (some ⟨O1, 1, none⟩)) ?_
        refine pl_take (.int .i64 s.2) rfl (by kernel_rfl) (by kernel_rfl) (by kernel_rfl) (ex_load rfl (by kernel_rfl) (ld3 (bO1_1.1))) ?_
        refine pT (.pointer (some ⟨O1, 0, none⟩)) ?_
        refine pl_take (.int .i64 s.1) rfl (by kernel_rfl) (by kernel_rfl) (by kernel_rfl) (ex_load rfl (by kernel_rfl) (ld3 (bO1_0.1))) ?_
        refine pl_take (.int .i64 (s.2 - s.1 : Int)) rfl (by kernel_rfl) (by kernel_rfl) (by kernel_rfl) (ev_wrap (by kernel_rfl) (by omega) (by omega)) ?_
        refine pT (.int .i64 m) ?_
        by_cases hc8 : (s.2 - s.1 : Int) ≤ (m : Int)
        ·
          refine pl_take (.bool true) rfl (by kernel_rfl) (by kernel_rfl) (by kernel_rfl) (ev_dec (show _ = Result.ok (Next.value (Value.bool (decide ((s.2 - s.1 : Int) ≤ (m : Int))))) _ from by kernel_rfl) (hc8)) ?_
          refine pT (.bool true) ?_
          refine pT (.bool true) ?_
          refine pl_nil ?_; refine qw_then ?_
          refine cw_clean [4] (ws' := [(4, .bool true)]) (by kernel_rfl) (fun L => ?_)
          refine cw_ret ?_
          refine qw_ret [.bool true] rfl ⟨(by kernel_rfl), trivial⟩ ?_
          exact ⟨congrArg (fun b => Ending.returned (Value.bool b)) (show Swath.spB s m = true by simp [Swath.spB, hc5, hc6, hc7, hc8]).symm, hE⟩
        ·
          refine pl_take (.bool false) rfl (by kernel_rfl) (by kernel_rfl) (by kernel_rfl) (ev_ndec (show _ = Result.ok (Next.value (Value.bool (decide ((s.2 - s.1 : Int) ≤ (m : Int))))) _ from by kernel_rfl) (hc8)) ?_
          refine pT (.bool false) ?_
          refine pT (.bool false) ?_
          refine pl_nil ?_; refine qw_then ?_
          refine cw_clean [4] (ws' := [(4, .bool false)]) (by kernel_rfl) (fun L => ?_)
          refine cw_ret ?_
          refine qw_ret [.bool false] rfl ⟨(by kernel_rfl), trivial⟩ ?_
          exact ⟨congrArg (fun b => Ending.returned (Value.bool b)) (show Swath.spB s m = false by simp [Swath.spB, hc5, hc6, hc7, hc8]).symm, hE⟩
      ·
        refine pl_take (.bool false) rfl (by kernel_rfl) (by kernel_rfl) (by kernel_rfl) (ev_ndec (show _ = Result.ok (Next.value (Value.bool (decide ((s.2 : Int) ≤ (1000001 : Int))))) _ from by kernel_rfl) (hc7)) ?_
        refine pT (.bool false) ?_
        refine pT (.bool false) ?_
        refine pl_skip rfl (by kernel_rfl) (by kernel_rfl) (by kernel_rfl) ?_
        refine pl_skip rfl (by kernel_rfl) (by kernel_rfl) (by kernel_rfl) ?_
        refine pl_skip rfl (by kernel_rfl) (by kernel_rfl) (by kernel_rfl) ?_
        refine pl_skip rfl (by kernel_rfl) (by kernel_rfl) (by kernel_rfl) ?_
        refine pl_skip rfl (by kernel_rfl) (by kernel_rfl) (by kernel_rfl) ?_
        refine pl_skip rfl (by kernel_rfl) (by kernel_rfl) (by kernel_rfl) ?_
        refine pl_skip rfl (by kernel_rfl) (by kernel_rfl) (by kernel_rfl) ?_
        refine pT (.bool false) ?_
        refine pT (.bool false) ?_
        refine pl_nil ?_; refine qw_then ?_
        refine cw_clean [4] (ws' := [(4, .bool false)]) (by kernel_rfl) (fun L => ?_)
        refine cw_ret ?_
        refine qw_ret [.bool false] rfl ⟨(by kernel_rfl), trivial⟩ ?_
        exact ⟨congrArg (fun b => Ending.returned (Value.bool b)) (show Swath.spB s m = false by simp [Swath.spB, hc5, hc6, hc7]).symm, hE⟩
    ·
      refine pl_take (.bool false) rfl (by kernel_rfl) (by kernel_rfl) (by kernel_rfl) (ev_ndec (show _ = Result.ok (Next.value (Value.bool (decide ((s.1 : Int) < (s.2 : Int))))) _ from by kernel_rfl) (hc6)) ?_
      refine pT (.bool false) ?_
      refine pT (.bool false) ?_
      refine pl_skip rfl (by kernel_rfl) (by kernel_rfl) (by kernel_rfl) ?_
      refine pl_skip rfl (by kernel_rfl) (by kernel_rfl) (by kernel_rfl) ?_
      refine pl_skip rfl (by kernel_rfl) (by kernel_rfl) (by kernel_rfl) ?_
      refine pT (.bool false) ?_
      refine pT (.bool false) ?_
      refine pl_skip rfl (by kernel_rfl) (by kernel_rfl) (by kernel_rfl) ?_
      refine pl_skip rfl (by kernel_rfl) (by kernel_rfl) (by kernel_rfl) ?_
      refine pl_skip rfl (by kernel_rfl) (by kernel_rfl) (by kernel_rfl) ?_
      refine pl_skip rfl (by kernel_rfl) (by kernel_rfl) (by kernel_rfl) ?_
      refine pl_skip rfl (by kernel_rfl) (by kernel_rfl) (by kernel_rfl) ?_
      refine pl_skip rfl (by kernel_rfl) (by kernel_rfl) (by kernel_rfl) ?_
      refine pl_skip rfl (by kernel_rfl) (by kernel_rfl) (by kernel_rfl) ?_
      refine pT (.bool false) ?_
      refine pT (.bool false) ?_
      refine pl_nil ?_; refine qw_then ?_
      refine cw_clean [4] (ws' := [(4, .bool false)]) (by kernel_rfl) (fun L => ?_)
      refine cw_ret ?_
      refine qw_ret [.bool false] rfl ⟨(by kernel_rfl), trivial⟩ ?_
      exact ⟨congrArg (fun b => Ending.returned (Value.bool b)) (show Swath.spB s m = false by simp [Swath.spB, hc5, hc6]).symm, hE⟩
  ·
    refine pl_take (.bool false) rfl (by kernel_rfl) (by kernel_rfl) (by kernel_rfl) (ev_ndec (show _ = Result.ok (Next.value (Value.bool (decide ((0 : Int) ≤ (s.1 : Int))))) _ from by kernel_rfl) (hc5)) ?_
    refine pT (.bool false) ?_
    refine pl_skip rfl (by kernel_rfl) (by kernel_rfl) (by kernel_rfl) ?_
    refine pl_skip rfl (by kernel_rfl) (by kernel_rfl) (by kernel_rfl) ?_
    refine pl_skip rfl (by kernel_rfl) (by kernel_rfl) (by kernel_rfl) ?_
    refine pl_skip rfl (by kernel_rfl) (by kernel_rfl) (by kernel_rfl) ?_
    refine pl_skip rfl (by kernel_rfl) (by kernel_rfl) (by kernel_rfl) ?_
    refine pT (.bool false) ?_
    refine pT (.bool false) ?_
    refine pl_skip rfl (by kernel_rfl) (by kernel_rfl) (by kernel_rfl) ?_
    refine pl_skip rfl (by kernel_rfl) (by kernel_rfl) (by kernel_rfl) ?_
    refine pl_skip rfl (by kernel_rfl) (by kernel_rfl) (by kernel_rfl) ?_
    refine pT (.bool false) ?_
    refine pT (.bool false) ?_
    refine pl_skip rfl (by kernel_rfl) (by kernel_rfl) (by kernel_rfl) ?_
    refine pl_skip rfl (by kernel_rfl) (by kernel_rfl) (by kernel_rfl) ?_
    refine pl_skip rfl (by kernel_rfl) (by kernel_rfl) (by kernel_rfl) ?_
    refine pl_skip rfl (by kernel_rfl) (by kernel_rfl) (by kernel_rfl) ?_
    refine pl_skip rfl (by kernel_rfl) (by kernel_rfl) (by kernel_rfl) ?_
    refine pl_skip rfl (by kernel_rfl) (by kernel_rfl) (by kernel_rfl) ?_
    refine pl_skip rfl (by kernel_rfl) (by kernel_rfl) (by kernel_rfl) ?_
    refine pT (.bool false) ?_
    refine pT (.bool false) ?_
    refine pl_nil ?_; refine qw_then ?_
    refine cw_clean [4] (ws' := [(4, .bool false)]) (by kernel_rfl) (fun L => ?_)
    refine cw_ret ?_
    refine qw_ret [.bool false] rfl ⟨(by kernel_rfl), trivial⟩ ?_
    exact ⟨congrArg (fun b => Ending.returned (Value.bool b)) (show Swath.spB s m = false by simp [Swath.spB, hc5]).symm, hE⟩
theorem isSpell_r (s : Int × Int) (m : Int) {r : Bool} (w : World) (hr : Swath.spB s m = r) : Calls Try.prog 57 #[.agg #[.int .i64 s.1, .int .i64 s.2], .int .i64 m] w fun e w' => e = .returned (.bool r) ∧ Ext w w' := hr ▸ isSpell_c s m w
set_option maxRecDepth 1000000 in
set_option maxHeartbeats 4000000 in
theorem sValid_c (o : Orb) (s : Int × Int) (l : Int) (w : World) : Calls Try.prog 22 #[.agg #[.int .i64 o.p, .int .i64 o.f, .int .i64 o.lo, .int .i64 o.hi, .int .i64 o.nd, .int .i64 o.tn, .int .i64 o.sl], .agg #[.int .i64 s.1, .int .i64 s.2], .int .i64 l] w fun e w' => e = .returned (.bool (Swath.shB o s l)) ∧ Ext w w' := by
  refine calls_cw 17 [(2, .int .i64 l), (1, .agg #[.int .i64 s.1, .int .i64 s.2]), (0, .agg #[.int .i64 o.p, .int .i64 o.f, .int .i64 o.lo, .int .i64 o.hi, .int .i64 o.nd, .int .i64 o.tn, .int .i64 o.sl])] Try.func22 rfl Try.ntmps22 (by kernel_rfl) (by kernel_rfl) (fun L => ?_)
  have hE : Ext w w := Ext.refl w
  refine cw_seq ?_; refine cw_plain ?_
  refine pS (sn_new (us := #[.int .i64 o.p, .int .i64 o.f, .int .i64 o.lo, .int .i64 o.hi, .int .i64 o.nd, .int .i64 o.tn, .int .i64 o.sl]) (t := 24) (by kernel_rfl) ?_)
  intro O1 X2 hO hOs hb hbx
  have hzO1 := hO; have hyO1 := hOs; clear hO hOs
  have bO1_0 : BoxAt X2 O1 0 (.int .i64 o.p) := hbx 0 _ rfl
  have bO1_1 : BoxAt X2 O1 1 (.int .i64 o.f) := hbx 1 _ rfl
  have bO1_2 : BoxAt X2 O1 2 (.int .i64 o.lo) := hbx 2 _ rfl
  have bO1_3 : BoxAt X2 O1 3 (.int .i64 o.hi) := hbx 3 _ rfl
  have bO1_4 : BoxAt X2 O1 4 (.int .i64 o.nd) := hbx 4 _ rfl
  have bO1_5 : BoxAt X2 O1 5 (.int .i64 o.tn) := hbx 5 _ rfl
  have bO1_6 : BoxAt X2 O1 6 (.int .i64 o.sl) := hbx 6 _ rfl
  clear hbx; replace hE := hE.trans hb; have hs3 := hb.size; clear hb; have lt4 := bO1_0.lt
  refine pS (sn_new (us := #[.int .i64 s.1, .int .i64 s.2]) (t := 26) (by kernel_rfl) ?_)
  intro O5 X6 hO hOs hb hbx
  have hzO5 := hO; have hyO5 := hOs; clear hO hOs
  have bO5_0 : BoxAt X6 O5 0 (.int .i64 s.1) := hbx 0 _ rfl
  have bO5_1 : BoxAt X6 O5 1 (.int .i64 s.2) := hbx 1 _ rfl
  clear hbx; replace hE := hE.trans hb; replace bO1_0 := BoxAt.ext hb bO1_0; replace bO1_1 := BoxAt.ext hb bO1_1; replace bO1_2 := BoxAt.ext hb bO1_2; replace bO1_3 := BoxAt.ext hb bO1_3; replace bO1_4 := BoxAt.ext hb bO1_4; replace bO1_5 := BoxAt.ext hb bO1_5; replace bO1_6 := BoxAt.ext hb bO1_6; have hs7 := hb.size; clear hb; have lt8 := bO5_0.lt
  refine pT (.bool false) ?_
  refine pl_nil ?_; refine qw_then ?_; refine cw_seq ?_
  have hX9 : Ext X6 X6 := Ext.refl _
  refine cw_plain ?_
  refine pl_take (.agg #[.int .i64 o.p, .int .i64 o.f, .int .i64 o.lo, .int .i64 o.hi, .int .i64 o.nd, .int .i64 o.tn, .int .i64 o.sl]) rfl (by kernel_rfl) (by kernel_rfl) (by kernel_rfl) (ex_load rfl (by kernel_rfl) (ld24 (bO1_0.1) (bO1_1.1) (bO1_2.1) (bO1_3.1) (bO1_4.1) (bO1_5.1) (bO1_6.1))) ?_
  rcases Bool.eq_false_or_eq_true (Orb.ok o) with hb10 | hb10
  ·
    refine pS (sn_call (f := 56) (args := #[.agg #[.int .i64 o.p, .int .i64 o.f, .int .i64 o.lo, .int .i64 o.hi, .int .i64 o.nd, .int .i64 o.tn, .int .i64 o.sl]]) (by kernel_rfl) ((oValid_r (r := true) _ (hb10)).mono ?_))
    rintro e w11 ⟨rfl, hb⟩
    replace hE := hE.trans hb; replace hX9 := hX9.trans hb; have hs12 := hb.size; clear hb
    refine ⟨_, rfl, ?_⟩
    refine pT (.bool true) ?_
    refine pl_take (.agg #[.int .i64 s.1, .int .i64 s.2]) rfl (by kernel_rfl) (by kernel_rfl) (by kernel_rfl) (ex_load rfl (by kernel_rfl) (ld26 ((BoxAt.ext hX9 bO5_0).1) ((BoxAt.ext hX9 bO5_1).1))) ?_
    rcases Bool.eq_false_or_eq_true (Swath.spB s 60) with hb13 | hb13
    ·
      refine pS (sn_call (f := 57) (args := #[.agg #[.int .i64 s.1, .int .i64 s.2], .int .i64 60]) (by kernel_rfl) ((isSpell_r (r := true) s 60 _ (hb13)).mono ?_))
      rintro e w14 ⟨rfl, hb⟩
      replace hE := hE.trans hb; replace hX9 := hX9.trans hb; have hs15 := hb.size; clear hb
      refine ⟨_, rfl, ?_⟩
      refine pT (.bool true) ?_
      refine pT (.bool true) ?_
      refine pT (.int .i64 l) ?_
      rcases Bool.eq_false_or_eq_true (Globe.inB l (-4) 4) with hb16 | hb16
      ·
        have hq17 := Globe.inB_t.1 hb16
        refine pS (sn_call (f := 43) (args := #[.int .i64 l, .int .i64 (-4 : Int), .int .i64 4]) (by kernel_rfl) ((swath_isIn_r (r := true) l (-4) 4 _ (hb16)).mono ?_))
        rintro e w18 ⟨rfl, hb⟩
        replace hE := hE.trans hb; replace hX9 := hX9.trans hb; have hs19 := hb.size; clear hb
        refine ⟨_, rfl, ?_⟩
        refine pT (.bool true) ?_
        refine pT (.bool true) ?_
        refine pl_nil ?_; refine qw_then ?_
        refine cw_clean [6] (ws' := [(6, .bool true)]) (by kernel_rfl) (fun L => ?_)
        refine cw_ret ?_
        refine qw_ret [.bool true] rfl ⟨(by kernel_rfl), trivial⟩ ?_
        exact ⟨congrArg (fun b => Ending.returned (Value.bool b)) (show Swath.shB o s l = true by simp [Swath.shB, hb10, hb13, hb16]).symm, hE⟩
      ·
        refine pS (sn_call (f := 43) (args := #[.int .i64 l, .int .i64 (-4 : Int), .int .i64 4]) (by kernel_rfl) ((swath_isIn_r (r := false) l (-4) 4 _ (hb16)).mono ?_))
        rintro e w20 ⟨rfl, hb⟩
        replace hE := hE.trans hb; replace hX9 := hX9.trans hb; have hs21 := hb.size; clear hb
        refine ⟨_, rfl, ?_⟩
        refine pT (.bool false) ?_
        refine pT (.bool false) ?_
        refine pl_nil ?_; refine qw_then ?_
        refine cw_clean [6] (ws' := [(6, .bool false)]) (by kernel_rfl) (fun L => ?_)
        refine cw_ret ?_
        refine qw_ret [.bool false] rfl ⟨(by kernel_rfl), trivial⟩ ?_
        exact ⟨congrArg (fun b => Ending.returned (Value.bool b)) (show Swath.shB o s l = false by simp [Swath.shB, hb10, hb13, hb16]).symm, hE⟩
    ·
      refine pS (sn_call (f := 57) (args := #[.agg #[.int .i64 s.1, .int .i64 s.2], .int .i64 60]) (by kernel_rfl) ((isSpell_r (r := false) s 60 _ (hb13)).mono ?_))
      rintro e w22 ⟨rfl, hb⟩
      replace hE := hE.trans hb; replace hX9 := hX9.trans hb; have hs23 := hb.size; clear hb
      refine ⟨_, rfl, ?_⟩
      refine pT (.bool false) ?_
      refine pT (.bool false) ?_
      refine pl_skip rfl (by kernel_rfl) (by kernel_rfl) (by kernel_rfl) ?_
      refine pl_skip rfl (by kernel_rfl) (by kernel_rfl) (by kernel_rfl) ?_
      refine pT (.bool false) ?_
      refine pT (.bool false) ?_
      refine pl_nil ?_; refine qw_then ?_
      refine cw_clean [6] (ws' := [(6, .bool false)]) (by kernel_rfl) (fun L => ?_)
      refine cw_ret ?_
      refine qw_ret [.bool false] rfl ⟨(by kernel_rfl), trivial⟩ ?_
      exact ⟨congrArg (fun b => Ending.returned (Value.bool b)) (show Swath.shB o s l = false by simp [Swath.shB, hb10, hb13]).symm, hE⟩
  ·
    refine pS (sn_call (f := 56) (args := #[.agg #[.int .i64 o.p, .int .i64 o.f, .int .i64 o.lo, .int .i64 o.hi, .int .i64 o.nd, .int .i64 o.tn, .int .i64 o.sl]]) (by kernel_rfl) ((oValid_r (r := false) _ (hb10)).mono ?_))
    rintro e w24 ⟨rfl, hb⟩
    replace hE := hE.trans hb; replace hX9 := hX9.trans hb; have hs25 := hb.size; clear hb
    refine ⟨_, rfl, ?_⟩
    refine pT (.bool false) ?_
    refine pl_skip rfl (by kernel_rfl) (by kernel_rfl) (by kernel_rfl) ?_
    refine pl_skip rfl (by kernel_rfl) (by kernel_rfl) (by kernel_rfl) ?_
    refine pT (.bool false) ?_
    refine pT (.bool false) ?_
    refine pl_skip rfl (by kernel_rfl) (by kernel_rfl) (by kernel_rfl) ?_
    refine pl_skip rfl (by kernel_rfl) (by kernel_rfl) (by kernel_rfl) ?_
    refine pT (.bool false) ?_
    refine pT (.bool false) ?_
    refine pl_nil ?_; refine qw_then ?_
    refine cw_clean [6] (ws' := [(6, .bool false)]) (by kernel_rfl) (fun L => ?_)
    refine cw_ret ?_
    refine qw_ret [.bool false] rfl ⟨(by kernel_rfl), trivial⟩ ?_
    exact ⟨congrArg (fun b => Ending.returned (Value.bool b)) (show Swath.shB o s l = false by simp [Swath.shB, hb10]).symm, hE⟩
theorem sValid_r (o : Orb) (s : Int × Int) (l : Int) {r : Bool} (w : World) (hr : Swath.shB o s l = r) : Calls Try.prog 22 #[.agg #[.int .i64 o.p, .int .i64 o.f, .int .i64 o.lo, .int .i64 o.hi, .int .i64 o.nd, .int .i64 o.tn, .int .i64 o.sl], .agg #[.int .i64 s.1, .int .i64 s.2], .int .i64 l] w fun e w' => e = .returned (.bool r) ∧ Ext w w' := hr ▸ sValid_c o s l w
set_option maxRecDepth 1000000 in
set_option maxHeartbeats 4000000 in
theorem delays_c (o : Orb) (w : World) : Calls Try.prog 81 #[.agg #[.int .i64 o.p, .int .i64 o.f, .int .i64 o.lo, .int .i64 o.hi, .int .i64 o.nd, .int .i64 o.tn, .int .i64 o.sl]] w fun e w' => ∃ B, e = .returned (.func (.func 100) #[] #[.pointer (some ⟨B, 0, none⟩)]) ∧ w.heap.size ≤ B ∧ w'.cell? ⟨B, 6, none⟩ = some (.int .i64 o.sl) ∧ Ext w w' := by
  refine calls_cw 4 [(0, .agg #[.int .i64 o.p, .int .i64 o.f, .int .i64 o.lo, .int .i64 o.hi, .int .i64 o.nd, .int .i64 o.tn, .int .i64 o.sl])] Try.func81 rfl Try.ntmps81 (by kernel_rfl) (by kernel_rfl) (fun L => ?_)
  have hE : Ext w w := Ext.refl w
  refine cw_seq ?_; refine cw_plain ?_
  refine pS (sn_new (us := #[.int .i64 o.p, .int .i64 o.f, .int .i64 o.lo, .int .i64 o.hi, .int .i64 o.nd, .int .i64 o.tn, .int .i64 o.sl]) (t := 24) (by kernel_rfl) ?_)
  intro O1 X2 hO hOs hb hbx
  have hzO1 := hO; have hyO1 := hOs; clear hO hOs
  have bO1_0 : BoxAt X2 O1 0 (.int .i64 o.p) := hbx 0 _ rfl
  have bO1_1 : BoxAt X2 O1 1 (.int .i64 o.f) := hbx 1 _ rfl
  have bO1_2 : BoxAt X2 O1 2 (.int .i64 o.lo) := hbx 2 _ rfl
  have bO1_3 : BoxAt X2 O1 3 (.int .i64 o.hi) := hbx 3 _ rfl
  have bO1_4 : BoxAt X2 O1 4 (.int .i64 o.nd) := hbx 4 _ rfl
  have bO1_5 : BoxAt X2 O1 5 (.int .i64 o.tn) := hbx 5 _ rfl
  have bO1_6 : BoxAt X2 O1 6 (.int .i64 o.sl) := hbx 6 _ rfl
  clear hbx; replace hE := hE.trans hb; have hs3 := hb.size; clear hb; have lt4 := bO1_0.lt
  refine pT (Value.nilFunc) ?_
  refine pl_nil ?_; refine qw_then ?_; refine cw_seq ?_
  have hX5 : Ext X2 X2 := Ext.refl _
  refine cw_plain ?_
  refine pT (.func (.func 100) #[] #[.pointer (some ⟨O1, 0, none⟩)]) ?_
  refine pT (.func (.func 100) #[] #[.pointer (some ⟨O1, 0, none⟩)]) ?_
  refine pl_nil ?_; refine qw_then ?_
  refine cw_ret ?_
  refine qw_ret [.func (.func 100) #[] #[.pointer (some ⟨O1, 0, none⟩)]] rfl ⟨(by kernel_rfl), trivial⟩ ?_
  exact ⟨O1, rfl, (Nat.le_of_eq hzO1), bO1_6.1, hE⟩
set_option maxRecDepth 1000000 in
set_option maxHeartbeats 4000000 in
theorem shown_c (o : Orb) (s : Int × Int) (l d : Int) (w : World) : Calls Try.prog 51 #[.agg #[.int .i64 o.p, .int .i64 o.f, .int .i64 o.lo, .int .i64 o.hi, .int .i64 o.nd, .int .i64 o.tn, .int .i64 o.sl], .agg #[.int .i64 s.1, .int .i64 s.2], .int .i64 l, .int .i64 d] w fun e w' => ∃ B1 B2 B3 B4, e = .returned (.func (.func 82) #[] #[.pointer (some ⟨B1, 0, none⟩), .pointer (some ⟨B2, 0, none⟩), .pointer (some ⟨B3, 0, none⟩), .pointer (some ⟨B4, 0, none⟩)]) ∧ (w.heap.size ≤ B1 ∧ w.heap.size ≤ B2 ∧ w.heap.size ≤ B3 ∧ w.heap.size ≤ B4) ∧ ShownAt w' B1 B2 B3 B4 o s l d ∧ Ext w w' := by
  refine calls_cw 10 [(3, .int .i64 d), (2, .int .i64 l), (1, .agg #[.int .i64 s.1, .int .i64 s.2]), (0, .agg #[.int .i64 o.p, .int .i64 o.f, .int .i64 o.lo, .int .i64 o.hi, .int .i64 o.nd, .int .i64 o.tn, .int .i64 o.sl])] Try.func51 rfl Try.ntmps51 (by kernel_rfl) (by kernel_rfl) (fun L => ?_)
  have hE : Ext w w := Ext.refl w
  refine cw_seq ?_; refine cw_plain ?_
  refine pS (sn_new (us := #[.int .i64 o.p, .int .i64 o.f, .int .i64 o.lo, .int .i64 o.hi, .int .i64 o.nd, .int .i64 o.tn, .int .i64 o.sl]) (t := 24) (by kernel_rfl) ?_)
  intro O1 X2 hO hOs hb hbx
  have hzO1 := hO; have hyO1 := hOs; clear hO hOs
  have bO1_0 : BoxAt X2 O1 0 (.int .i64 o.p) := hbx 0 _ rfl
  have bO1_1 : BoxAt X2 O1 1 (.int .i64 o.f) := hbx 1 _ rfl
  have bO1_2 : BoxAt X2 O1 2 (.int .i64 o.lo) := hbx 2 _ rfl
  have bO1_3 : BoxAt X2 O1 3 (.int .i64 o.hi) := hbx 3 _ rfl
  have bO1_4 : BoxAt X2 O1 4 (.int .i64 o.nd) := hbx 4 _ rfl
  have bO1_5 : BoxAt X2 O1 5 (.int .i64 o.tn) := hbx 5 _ rfl
  have bO1_6 : BoxAt X2 O1 6 (.int .i64 o.sl) := hbx 6 _ rfl
  clear hbx; replace hE := hE.trans hb; have hs3 := hb.size; clear hb; have lt4 := bO1_0.lt
  refine pS (sn_new (us := #[.int .i64 s.1, .int .i64 s.2]) (t := 26) (by kernel_rfl) ?_)
  intro O5 X6 hO hOs hb hbx
  have hzO5 := hO; have hyO5 := hOs; clear hO hOs
  have bO5_0 : BoxAt X6 O5 0 (.int .i64 s.1) := hbx 0 _ rfl
  have bO5_1 : BoxAt X6 O5 1 (.int .i64 s.2) := hbx 1 _ rfl
  clear hbx; replace hE := hE.trans hb; replace bO1_0 := BoxAt.ext hb bO1_0; replace bO1_1 := BoxAt.ext hb bO1_1; replace bO1_2 := BoxAt.ext hb bO1_2; replace bO1_3 := BoxAt.ext hb bO1_3; replace bO1_4 := BoxAt.ext hb bO1_4; replace bO1_5 := BoxAt.ext hb bO1_5; replace bO1_6 := BoxAt.ext hb bO1_6; have hs7 := hb.size; clear hb; have lt8 := bO5_0.lt
  refine pS (sn_new (us := #[.int .i64 l]) (t := 3) (by kernel_rfl) ?_)
  intro O9 X10 hO hOs hb hbx
  have hzO9 := hO; have hyO9 := hOs; clear hO hOs
  have bO9_0 : BoxAt X10 O9 0 (.int .i64 l) := hbx 0 _ rfl
  clear hbx; replace hE := hE.trans hb; replace bO1_0 := BoxAt.ext hb bO1_0; replace bO1_1 := BoxAt.ext hb bO1_1; replace bO1_2 := BoxAt.ext hb bO1_2; replace bO1_3 := BoxAt.ext hb bO1_3; replace bO1_4 := BoxAt.ext hb bO1_4; replace bO1_5 := BoxAt.ext hb bO1_5; replace bO1_6 := BoxAt.ext hb bO1_6; replace bO5_0 := BoxAt.ext hb bO5_0; replace bO5_1 := BoxAt.ext hb bO5_1; have hs11 := hb.size; clear hb; have lt12 := bO9_0.lt
  refine pS (sn_new (us := #[.int .i64 d]) (t := 3) (by kernel_rfl) ?_)
  intro O13 X14 hO hOs hb hbx
  have hzO13 := hO; have hyO13 := hOs; clear hO hOs
  have bO13_0 : BoxAt X14 O13 0 (.int .i64 d) := hbx 0 _ rfl
  clear hbx; replace hE := hE.trans hb; replace bO1_0 := BoxAt.ext hb bO1_0; replace bO1_1 := BoxAt.ext hb bO1_1; replace bO1_2 := BoxAt.ext hb bO1_2; replace bO1_3 := BoxAt.ext hb bO1_3; replace bO1_4 := BoxAt.ext hb bO1_4; replace bO1_5 := BoxAt.ext hb bO1_5; replace bO1_6 := BoxAt.ext hb bO1_6; replace bO5_0 := BoxAt.ext hb bO5_0; replace bO5_1 := BoxAt.ext hb bO5_1; replace bO9_0 := BoxAt.ext hb bO9_0; have hs15 := hb.size; clear hb; have lt16 := bO13_0.lt
  refine pT (Value.nilFunc) ?_
  refine pl_nil ?_; refine qw_then ?_; refine cw_seq ?_
  have hX17 : Ext X14 X14 := Ext.refl _
  refine cw_plain ?_
  refine pT (.func (.func 82) #[] #[.pointer (some ⟨O5, 0, none⟩), .pointer (some ⟨O1, 0, none⟩), .pointer (some ⟨O13, 0, none⟩), .pointer (some ⟨O9, 0, none⟩)]) ?_
  refine pT (.func (.func 82) #[] #[.pointer (some ⟨O5, 0, none⟩), .pointer (some ⟨O1, 0, none⟩), .pointer (some ⟨O13, 0, none⟩), .pointer (some ⟨O9, 0, none⟩)]) ?_
  refine pl_nil ?_; refine qw_then ?_
  refine cw_ret ?_
  refine qw_ret [.func (.func 82) #[] #[.pointer (some ⟨O5, 0, none⟩), .pointer (some ⟨O1, 0, none⟩), .pointer (some ⟨O13, 0, none⟩), .pointer (some ⟨O9, 0, none⟩)]] rfl ⟨(by kernel_rfl), trivial⟩ ?_
  exact ⟨O5, O1, O13, O9, rfl, ⟨(T hs3 (Nat.le_of_eq hzO5)), (Nat.le_of_eq hzO1), (T (T hs3 (T hs7 hs11)) (Nat.le_of_eq hzO13)), (T (T hs3 hs7) (Nat.le_of_eq hzO9))⟩, ⟨bO5_0.1, bO5_1.1, bO1_0.1, bO1_1.1, bO1_2.1, bO1_3.1, bO1_4.1, bO1_5.1, bO1_6.1, bO13_0.1, bO9_0.1⟩, hE⟩

end Go.Proofs.Ytdjjkhefdalokaa

/- What a range over a function wants, in the form in which this seat uses it. -/
namespace Go.Proofs.Ytdjjkhefdalokaa
open Go.RowKit

theorem Ext.others {a b : World} (h : Ext a b) : KeepsOthers a b := ⟨h.size, fun k _ ho _ => (Below.block h k (Array.getElem?_eq_some_iff.1 ho).1).trans ho⟩

theorem wide_depth {n : Nat} : Fence.wide.depth.isSome = true → 1 ≤ n := fun h => by simp [Fence.wide] at h

/-- What lies below n₀ lies as it lay, but for the blocks of X (which a round may write). -/
structure KeepX (n₀ : Nat) (X : Nat → Prop) (A B : World) : Prop where
  size : A.heap.size ≤ B.heap.size
  block : ∀ k, k < n₀ → ¬ X k → B.heap[k]? = A.heap[k]?
theorem KeepX.refl (n₀ : Nat) (X : Nat → Prop) (A : World) : KeepX n₀ X A A := ⟨Nat.le_refl _, fun _ _ _ => rfl⟩
theorem KeepX.trans {n₀ : Nat} {X : Nat → Prop} {A B C : World} (h : KeepX n₀ X A B) (k : KeepX n₀ X B C) : KeepX n₀ X A C :=
  ⟨T h.size k.size, fun i hi hx => (k.block i hi hx).trans (h.block i hi hx)⟩
theorem KeepX.of_below {n₀ : Nat} {X : Nat → Prop} {A B : World} (h : Below n₀ A B) : KeepX n₀ X A B := ⟨h.size, fun k hk _ => h.block k hk⟩
theorem KeepX.of_ext {n₀ : Nat} {X : Nat → Prop} {A B : World} (h : Ext A B) (hn : n₀ ≤ A.heap.size) : KeepX n₀ X A B := KeepX.of_below (Below.mono h hn)
theorem KeepX.cell {n₀ : Nat} {X : Nat → Prop} {A B : World} (h : KeepX n₀ X A B) {b o : Nat} (hb : b < n₀) (hx : ¬ X b) : B.cell? ⟨b, o, none⟩ = A.cell? ⟨b, o, none⟩ := World.cell?_of_block (w := A) (h.block b hb hx)
theorem KeepX.setCell {n₀ : Nat} {X : Nat → Prop} (A : World) {p : Addr} (hp : X p.block) (u : Value) : KeepX n₀ X A (A.setCell p u) :=
  ⟨by simp [World.setCell], fun k _ hx => Below.heap_setCell _ _ _ _ (fun e => hx (e ▸ hp))⟩
theorem KeepX.putObj {n₀ : Nat} {X : Nat → Prop} {w : World} (hn : n₀ ≤ w.heap.size) (W : World) (l : Nat) (o o' : Obj) (hl : w.heap.size ≤ l) (h : W.heap[l]? = some o) (hc : o.isCells = false) (hw : o.isWalk = false) : KeepX n₀ X W (W.putObj l o') :=
  KeepX.of_below (belowK_b hn W l o o' hl h hc hw)

/-- A cell behind the shutting of a loop's block of deferred calls. -/
theorem cell_shut {W : World} {D : Nat} (hK : W.heap[D]? = some (.deferred (some []))) {a : Addr} {v : Value} (h : W.cell? a = some v) : (W.putObj D (.deferred none)).cell? a = some v :=
  cell_kept h (grownBy_putObj' _ D (.deferred none)) (fun r e => by cases e; exact ⟨_, hK, rfl⟩)
theorem Ext.shut {w W : World} {D : Nat} (h : Ext w W) (hD : w.heap.size ≤ D) (hK : W.heap[D]? = some (.deferred (some []))) : Ext w (W.putObj D (.deferred none)) :=
  Below.trans h (belowK_b (w := w) (Nat.le_refl _) W D _ _ hD hK rfl rfl)

end Go.Proofs.Ytdjjkhefdalokaa

/- Writing into a block of one's own; a valid area that is being made. -/
namespace Go.Proofs.Ytdjjkhefdalokaa
open Go.RowKit

/-- 2 to the n. -/
def p2 (n : Nat) : Nat := 2 ^ n
theorem p2_shl {n : Nat} (h : n ≤ 48) : IntKind.i64.wrap (2 ^ n) = (p2 n : Int) ∧ 1 ≤ p2 n ∧ p2 n ≤ 281474976710656 := by
  have h1 : 2 ^ n ≤ 2 ^ 48 := Nat.pow_le_pow_right (by decide) h
  have h0 := Nat.two_pow_pos n
  have e : ((2 : Int) ^ n) = ((2 ^ n : Nat) : Int) := by simp
  unfold p2
  refine ⟨?_, h0, h1⟩
  rw [e, IntKind.wrap_i64]
  omega
theorem grown_set {w w' : World} {p : Addr} {v : Value} {B : Nat} (hp : p.block = B) (h : Below (w.setCell p v).heap.size (w.setCell p v) w') : w.grownBy w' (some B) :=
  ⟨h.os, h.tape, h.output, T (by rw [World.size_setCell]; exact Nat.le_refl _) h.size, fun k hk hne => (h.block k (by rw [World.size_setCell]; exact hk)).trans (Below.heap_setCell _ _ _ k (fun e => hne (by rw [e, hp])))⟩
theorem grown_refl (w : World) (B : Nat) : w.grownBy w (some B) := ⟨rfl, rfl, rfl, Nat.le_refl _, fun _ _ _ => rfl⟩
theorem grown_trans {a b c : World} {r : Option Nat} (h : a.grownBy b r) (k : b.grownBy c r) : a.grownBy c r :=
  ⟨k.os.trans h.os, k.tape.trans h.tape, k.output.trans h.output, T h.size k.size, fun i hi hne => (k.block i (Nat.lt_of_lt_of_le hi h.size) hne).trans (h.block i hi hne)⟩
/-- What lay below the block that was written reads as it did. -/
theorem Ext.grown {w0 w w' : World} {B : Nat} (h : Ext w0 w) (hg : w.grownBy w' (some B)) (hB : w0.heap.size ≤ B) : Ext w0 w' := Below.grown h hg h.size (fun k e => by cases e; exact hB)
theorem grown_cell {w w' : World} {B : Nat} (hg : w.grownBy w' (some B)) {a : Addr} {v : Value} (h : w.cell? a = some v) (hne : a.block ≠ B) : w'.cell? a = some v := hg.cell h (fun e => hne (by simpa using e))
theorem grown_free {w w' : World} {B : Nat} (hg : w.grownBy w' (some B)) {a : Addr} {v : Value} (h : w.cell? a = some v) (hf : w.frozen? a = false) (hne : a.block ≠ B) : w'.frozen? a = false :=
  (World.frozen?_of_block (hg.block a.block (World.block_lt_of_cell? w a h) (fun e => hne (by simpa using e)))).trans hf
theorem BoxAt.grown {w w' : World} {B : Nat} (hg : w.grownBy w' (some B)) {b o : Nat} {v : Value} (h : BoxAt w b o v) (hne : b ≠ B) : BoxAt w' b o v := ⟨grown_cell hg h.1 hne, grown_free hg h.1 h.2 hne⟩
/-- A fresh valid area. -/
def RetM (w : World) (e : Ending) (w' : World) : Prop :=
  ∃ (B : Nat) (L : List Int), e = .returned (.agg #[.slice (some ⟨B, 0, none⟩) 24 24]) ∧ w.heap.size ≤ B ∧ Globe.validL L = true ∧ RowsAt w' B L ∧ VA w' B 0 L ∧ Ext w w'
/-- In the midst of Made: the area's own block B, its box O. -/
def Mk (w : World) (O B : Nat) (wr : World) : Prop :=
  (∃ L, Globe.validL L = true ∧ RowsAt wr B L) ∧ wr.cell? ⟨O, 0, none⟩ = some (.slice (some ⟨B, 0, none⟩) 24 24) ∧ BoxAt wr w.heap.size 0 (.slice none 0 0) ∧ Ext w wr
theorem Mk.ext {w w1 w2 : World} {O B : Nat} (h : Mk w O B w1) (hE : Ext w1 w2) : Mk w O B w2 :=
  ⟨by obtain ⟨L, hv, hr⟩ := h.1; exact ⟨L, hv, hr.ext hE⟩, hE.cell h.2.1, BoxAt.ext hE h.2.2.1, h.2.2.2.trans hE⟩

end Go.Proofs.Ytdjjkhefdalokaa

/- Rows of one's own (slices that are appended to), as worlds grow. -/
namespace Go.Proofs.Ytdjjkhefdalokaa
open Go.RowKit

theorem Ext.grownNone {w w' : World} (h : Ext w w') : w.grownBy w' none := ⟨h.os, h.tape, h.output, Below.size h, fun k hk _ => Below.block h k hk⟩
theorem own_ext {w w' : World} {base : Nat} {e : TypeId} {size : Nat} {v : Value} {n : Nat} {xs : List Value} (h : w.ownsRow base e size v n xs) (hE : Ext w w') : w'.ownsRow base e size v n xs :=
  h.kept hE.grownNone (by cases v.ownBlock <;> simp)
/-- What lies below a slice's own base is as it was. -/
theorem Ext.own {w0 w w' : World} {e : TypeId} {size : Nat} {v : Value} {n : Nat} {xs : List Value} (h : Ext w0 w) (hr : w.ownsRow w0.heap.size e size v n xs) (hg : w.grownBy w' v.ownBlock) : Ext w0 w' :=
  Below.grown h hg h.size (fun k e => (hr.lt k e).1)


/-- The world behind a region, under a name. -/
theorem exit_at (P : World → Prop) {K : Act → World → Prop} {Q : Exit → Act → World → Prop} {e : Exit} {st : Act} {w : World} (h : P w) (hn : ∀ V, P V → Exit.then K Q e st V) : Exit.then K Q e st w := hn w h
/-- Several ways, one continuation. -/
theorem exit_join0 {K : Act → World → Prop} {Q : Exit → Act → World → Prop} {e : Exit} {F : Act} (R : World → Prop) {G : Prop} (main : (∀ V, R V → Exit.then K Q e F V) → G) (rest : ∀ V, R V → Exit.then K Q e F V) : G := main rest
theorem exit_join1 {α : Type} {K : Act → World → Prop} {Q : Exit → Act → World → Prop} {e : Exit} {F : α → Act} (R : α → World → Prop) {G : Prop} (main : (∀ a V, R a V → Exit.then K Q e (F a) V) → G) (rest : ∀ a V, R a V → Exit.then K Q e (F a) V) : G := main rest
theorem exit_join2 {α β : Type} {K : Act → World → Prop} {Q : Exit → Act → World → Prop} {e : Exit} {F : α → β → Act} (R : α → β → World → Prop) {G : Prop} (main : (∀ a b V, R a b V → Exit.then K Q e (F a b) V) → G) (rest : ∀ a b V, R a b V → Exit.then K Q e (F a b) V) : G := main rest
theorem exit_join3 {α β γ : Type} {K : Act → World → Prop} {Q : Exit → Act → World → Prop} {e : Exit} {F : α → β → γ → Act} (R : α → β → γ → World → Prop) {G : Prop} (main : (∀ a b c V, R a b c V → Exit.then K Q e (F a b c) V) → G) (rest : ∀ a b c V, R a b c V → Exit.then K Q e (F a b c) V) : G := main rest
theorem exit_join4 {α β γ δ : Type} {K : Act → World → Prop} {Q : Exit → Act → World → Prop} {e : Exit} {F : α → β → γ → δ → Act} (R : α → β → γ → δ → World → Prop) {G : Prop} (main : (∀ a b c d V, R a b c d V → Exit.then K Q e (F a b c d) V) → G) (rest : ∀ a b c d V, R a b c d V → Exit.then K Q e (F a b c d) V) : G := main rest
theorem exit_join5 {α β γ δ ε : Type} {K : Act → World → Prop} {Q : Exit → Act → World → Prop} {e : Exit} {F : α → β → γ → δ → ε → Act} (R : α → β → γ → δ → ε → World → Prop) {G : Prop} (main : (∀ a b c d f V, R a b c d f V → Exit.then K Q e (F a b c d f) V) → G) (rest : ∀ a b c d f V, R a b c d f V → Exit.then K Q e (F a b c d f) V) : G := main rest
theorem exit_join6 {α β γ δ ε ζ : Type} {K : Act → World → Prop} {Q : Exit → Act → World → Prop} {e : Exit} {F : α → β → γ → δ → ε → ζ → Act} (R : α → β → γ → δ → ε → ζ → World → Prop) {G : Prop} (main : (∀ a b c d f g V, R a b c d f g V → Exit.then K Q e (F a b c d f g) V) → G) (rest : ∀ a b c d f g V, R a b c d f g V → Exit.then K Q e (F a b c d f g) V) : G := main rest
theorem exit_join7 {α β γ δ ε ζ η : Type} {K : Act → World → Prop} {Q : Exit → Act → World → Prop} {e : Exit} {F : α → β → γ → δ → ε → ζ → η → Act} (R : α → β → γ → δ → ε → ζ → η → World → Prop) {G : Prop} (main : (∀ a b c d f g h V, R a b c d f g h V → Exit.then K Q e (F a b c d f g h) V) → G) (rest : ∀ a b c d f g h V, R a b c d f g h V → Exit.then K Q e (F a b c d f g h) V) : G := main rest
theorem exit_join8 {α β γ δ ε ζ η θ : Type} {K : Act → World → Prop} {Q : Exit → Act → World → Prop} {e : Exit} {F : α → β → γ → δ → ε → ζ → η → θ → Act} (R : α → β → γ → δ → ε → ζ → η → θ → World → Prop) {G : Prop} (main : (∀ a b c d f g h i V, R a b c d f g h i V → Exit.then K Q e (F a b c d f g h i) V) → G) (rest : ∀ a b c d f g h i V, R a b c d f g h i V → Exit.then K Q e (F a b c d f g h i) V) : G := main rest
theorem exit_join9 {α β γ δ ε ζ η θ ι : Type} {K : Act → World → Prop} {Q : Exit → Act → World → Prop} {e : Exit} {F : α → β → γ → δ → ε → ζ → η → θ → ι → Act} (R : α → β → γ → δ → ε → ζ → η → θ → ι → World → Prop) {G : Prop} (main : (∀ a b c d f g h i j V, R a b c d f g h i j V → Exit.then K Q e (F a b c d f g h i j) V) → G) (rest : ∀ a b c d f g h i j V, R a b c d f g h i j V → Exit.then K Q e (F a b c d f g h i j) V) : G := main rest
theorem exit_join10 {α β γ δ ε ζ η θ ι κ : Type} {K : Act → World → Prop} {Q : Exit → Act → World → Prop} {e : Exit} {F : α → β → γ → δ → ε → ζ → η → θ → ι → κ → Act} (R : α → β → γ → δ → ε → ζ → η → θ → ι → κ → World → Prop) {G : Prop} (main : (∀ a b c d f g h i j k V, R a b c d f g h i j k V → Exit.then K Q e (F a b c d f g h i j k) V) → G) (rest : ∀ a b c d f g h i j k V, R a b c d f g h i j k V → Exit.then K Q e (F a b c d f g h i j k) V) : G := main rest
theorem VA.grownR {w w' : World} {r : Option Nat} {b o : Nat} {l : List Int} (h : VA w b o l) (hg : w.grownBy w' r) (hne : r ≠ some b) : VA w' b o l := ⟨fun i hi => hg.cell (h.1 i hi) (fun e => hne e.symm), h.2⟩
theorem BoxAt.grownR {w w' : World} {r : Option Nat} {b o : Nat} {v : Value} (h : BoxAt w b o v) (hg : w.grownBy w' r) (hne : r ≠ some b) : BoxAt w' b o v :=
  ⟨hg.cell h.1 (fun e => hne e.symm), (World.frozen?_of_block (hg.block b (World.block_lt_of_cell? w _ h.1) (fun e => hne e.symm))).trans h.2⟩
theorem own_set {w : World} {base : Nat} {e : TypeId} {size : Nat} {v : Value} {n : Nat} {xs : List Value} (h : w.ownsRow base e size v n xs) {p : Addr} (hp : v.ownBlock ≠ some p.block) (u : Value) : (w.setCell p u).ownsRow base e size v n xs :=
  h.kept (grown_set (p := p) rfl (Below.refl _ _)) (.inr hp)
theorem own_ne {w : World} {base : Nat} {e : TypeId} {size : Nat} {v : Value} {n : Nat} {xs : List Value} (h : w.ownsRow base e size v n xs) {b : Nat} (hb : b < base) : v.ownBlock ≠ some b := fun he => by have := (h.lt b he).1; omega
theorem own_ne2 {w : World} {base : Nat} {e : TypeId} {size : Nat} {v : Value} {n : Nat} {xs : List Value} (h : w.ownsRow base e size v n xs) {b : Nat} (hb : w.heap.size ≤ b) : v.ownBlock ≠ some b := fun he => by have := (h.lt b he).2; omega
theorem cell_1_new (w : World) (x : Value) (t : TypeId) : ∀ j u, [x][j]? = some u → (w.alloc (.cells #[x] t)).cell? ((⟨w.heap.size, 0, none⟩ : Addr).add j) = some u := by
  intro j u hj
  rw [Addr.add_mid, Nat.zero_add]
  match j, hj with
  | 0, hj => simp at hj; subst hj; simp [go_sem]
  | _ + 1, hj => simp at hj
theorem cell_2_new (w : World) (x y : Value) (t : TypeId) : ∀ j u, [x, y][j]? = some u → (w.alloc (.cells #[x, y] t)).cell? ((⟨w.heap.size, 0, none⟩ : Addr).add j) = some u := by
  intro j u hj
  rw [Addr.add_mid, Nat.zero_add]
  match j, hj with
  | 0, hj => simp at hj; subst hj; simp [go_sem]
  | 1, hj => simp at hj; subst hj; simp [go_sem]
  | _ + 2, hj => simp at hj
theorem cell_1_at (w : World) (x : Value) (t : TypeId) {b : Nat} (hb : b = w.heap.size) : ∀ j u, [x][j]? = some u → (w.alloc (.cells #[x] t)).cell? ((⟨b, 0, none⟩ : Addr).add j) = some u := hb ▸ cell_1_new w x t
theorem Ext.own' {w0 w w' : World} {base : Nat} {e : TypeId} {size : Nat} {v : Value} {n : Nat} {xs : List Value} (h : Ext w0 w) (hr : w.ownsRow base e size v n xs) (hb : w0.heap.size ≤ base) (hg : w.grownBy w' v.ownBlock) : Ext w0 w' :=
  Below.grown h hg h.size (fun k e => T hb (hr.lt k e).1)

end Go.Proofs.Ytdjjkhefdalokaa

/- A range over a function whose yields hand on memory: the round may lean on a fact Φ of what it is handed (a list that has just been laid, say). The iterator shows Φ at each of its calls of yield. -/
namespace Go.Proofs.Ytdjjkhefdalokaa
open Go.RowKit

/-- The iterator's contract. -/
def SeqM {α : Type} (P : Program) (g : Nat) (lb : Array Value) (encs : α → Array Value) (Φ : α → World → Prop) (Kp : World → World → Prop) (S Sp : List α → Prop) (w : World) : Prop :=
  ∀ (l : Nat) (J Jx : List α → World → Prop) (W : World), Below w.heap.size w W → AbidesFrom W.heap.size J → AbidesFrom W.heap.size Jx →
    (∀ pre x W1 m, J pre W1 → Φ x W1 → YieldAt Fence.wide m P l (encs x) W1 fun e W' => (e = .returned (.bool true) ∧ J (pre ++ [x]) W' ∧ Kp W1 W') ∨ (e = .returned (.bool false) ∧ Jx (pre ++ [x]) W' ∧ Kp W1 W')) →
    J [] W → ∀ n, CallsIn Fence.wide n P g (#[.func (.yield l) #[] #[]] ++ lb) W fun e W' => (∃ v, e = .returned v) ∧ ((∃ xs, S xs ∧ J xs W') ∨ (∃ pre, Sp pre ∧ Jx pre W'))

/-- How a round may be left: each way keeps what the iterator wants kept. -/
def roundM {α : Type} (B : Nat) (Kp : World → World → Prop) (I : List α → World → Prop) (Ix : Code → List α → World → Prop) (xs : List α) (W : World) : Exit → Act → World → Prop
  | .normal, _, W' => KeepsFrom B W W' ∧ Kp W W' ∧ I xs W'
  | .ret, _, W' => KeepsFrom B W W' ∧ Kp W W' ∧ Ix .ret xs W'
  | .exit id, _, W' => KeepsFrom B W W' ∧ Kp W W' ∧ Ix (.exit id) xs W'
  | .goto t, _, W' => KeepsFrom B W W' ∧ Kp W W' ∧ Ix (.goto t) xs W'
  | .panic _, _, _ => False
  | .outgrown, _, _ => False
/-- The loop's record. -/
def recOf (a : Act) (ps : Array Tmp) (assign body : Code) (fn : FuncId) (D : Nat) (st : LoopState) (pe : Option Code) : Loop := { state := st, pending := pe, fn, tmps := a.tmps, params := ps, assign, body, defers := D }

theorem rangeFunc_mem {α : Type} {P : Program} {n : Nat} {g : Operand} {ps : Array Tmp} {assign body : Code} {Q : Exit → Act → World → Prop} {a : Act} {w : World}
    {gf : Nat} {lb : Array Value} (hg : a.eval g = .func (.func gf) #[] lb) (eg : ∀ args w, (callFunc gf args).run P w = .ok (.enter gf args) w)
    {encs : α → Array Value} {Φ : α → World → Prop} {Kp : World → World → Prop} {S Sp : List α → Prop} {w0 : World} (hseq : SeqM P gf lb encs Φ Kp S Sp w0) (hb0 : Below w0.heap.size w0 w) (hps : ∀ x, (encs x).size = ps.size)
    (hΦ : ∀ x, OwnFrom w.heap.size (fun (_ : Unit) W => Φ x W))
    (hKt : ∀ {A B C : World}, Kp A B → Kp B C → Kp A C) (hKb : ∀ (W : World) (l : Nat) (o o' : Obj), w.heap.size ≤ l → W.heap[l]? = some o → o.isCells = false → o.isWalk = false → Kp W (W.putObj l o'))
    (I : List α → World → Prop) (Ix : Code → List α → World → Prop) (hI : OwnFrom w.heap.size I) (hIx : ∀ c, OwnFrom w.heap.size (Ix c)) (h0 : I [] w) (a₁ : α → Act)
    (hassign : ∀ (l m : Nat) (x : α) (W : World) (K : Act → World → Prop), K (a₁ x) W →
      assign.wpIn (Fence.wide.inRound l) m P (Exit.then K (fun _ _ _ => False)) { tmps := (ps.zip (encs x)).foldl (fun t (p, v) => t.setIfInBounds p v) a.tmps, defers := [] } W)
    (hbody : ∀ (l m : Nat) (pre : List α) (x : α) (W : World), I pre W → Φ x W → body.wpIn (Fence.wide.inRound l) m P (roundM w.heap.size Kp I Ix (pre ++ [x]) W) (a₁ x) W)
    (hdone : ∀ (D : Nat) (xs : List α) (W : World), w.heap.size ≤ D → S xs → I xs W → W.heap[D]? = some (.deferred (some [])) → Q .normal { a with defers := { target := .collected D, args := #[] } :: a.defers } W)
    (hstop : ∀ (D : Nat) (c : Code) (pre : List α) (W : World), w.heap.size ≤ D → Sp pre → Ix c pre W → W.heap[D]? = some (.deferred (some [])) → c.wpIn Fence.wide n P Q { a with defers := { target := .collected D, args := #[] } :: a.defers } W) :
    (Code.rangeFunc g ps assign body).wpIn Fence.wide n P Q a w := by
  refine wpIn_rangeFunc fun fn hfn => ?_
  let R := recOf a ps assign body fn w.heap.size
  have dn : ∀ st pe, (Obj.loop (R st pe)).isCells = false ∧ (Obj.loop (R st pe)).isWalk = false := fun _ _ => ⟨rfl, rfl⟩
  have dd : (Obj.deferred (some [])).isCells = false ∧ (Obj.deferred (some [])).isWalk = false := ⟨rfl, rfl⟩
  let W1 := (w.alloc (.deferred (some []))).alloc (.loop (R .ready none))
  have sz : W1.heap.size = w.heap.size + 2 := by simp [W1]
  have hL1 : W1.heap[w.heap.size + 1]? = some (.loop (R .ready none)) := by
    have := World.alloc_heap_new (w.alloc (.deferred (some []))) (.loop (R .ready none))
    rwa [World.size_alloc] at this
  have hK1 : W1.heap[w.heap.size]? = some (.deferred (some [])) := (Below.heap_alloc _ _ _ (by simp)).trans (World.alloc_heap_new w _)
  refine ⟨w.heap.size + 1, [{ target := .collected w.heap.size, args := #[] }], W1, { target := .fn (.func gf) lb, args := #[.func (.yield (w.heap.size + 1)) #[] #[]] }, W1, gf, #[.func (.yield (w.heap.size + 1)) #[] #[]] ++ lb, W1,
    run_enterLoop_outer _ _ _ _ _, ?_, fun _ _ => trivial, by simp [invoke, go_sem, eg], fun h => by simp [Fence.wide] at h, ?_⟩
  · simp only [resolve, hg]; simp [go_sem]
  -- what the iterator's own steps turn are walks' objects beyond W1: neither the record nor the mark's block
  have far : ∀ {A : World} {row : Option Nat}, (∀ r, row = some r → W1.heap.size ≤ r ∧ ∃ o : Obj, A.heap[r]? = some o ∧ o.isWalk = true) → (∀ r, row = some r → w.heap.size ≤ r ∧ ∃ o : Obj, A.heap[r]? = some o ∧ o.isCells = false) :=
    fun h r e => by obtain ⟨hB, o, ho, hw⟩ := h r e; exact ⟨by omega, o, ho, Obj.not_cells_of_walk hw⟩
  have stays : ∀ {A B : World} {row : Option Nat} {k : Nat} {o : Obj}, A.grownBy B row → (∀ r, row = some r → W1.heap.size ≤ r ∧ ∃ o : Obj, A.heap[r]? = some o ∧ o.isWalk = true) → A.heap[k]? = some o → o.isWalk = false → B.heap[k]? = some o :=
    fun h hr hk hw => (grownBy_keeps h (fun r e => (hr r e).2) hk hw).trans hk
  refine (hseq (w.heap.size + 1)
    (fun pre W => I pre W ∧ W.heap[w.heap.size + 1]? = some (.loop (R .ready none)) ∧ W.heap[w.heap.size]? = some (.deferred (some [])))
    (fun pre W => ∃ c, Ix c pre W ∧ W.heap[w.heap.size + 1]? = some (.loop (R .done (some c))) ∧ W.heap[w.heap.size]? = some (.deferred (some [])))
    W1 (hb0.trans ((((Below.refl _ w).alloc (Nat.le_refl _) _).alloc (by simp) _).mono hb0.size))
    (fun s A B row hs h hr => ⟨hI s A B row hs.1 h (far hr), stays h hr hs.2.1 rfl, stays h hr hs.2.2 rfl⟩)
    (fun s A B row ⟨c, hs, h1, h2⟩ h hr => ⟨c, hIx c s A B row hs h (far hr), stays h hr h1 rfl, stays h hr h2 rfl⟩)
    ?_ ⟨hI.alloc _ (hI.alloc _ h0), hL1, hK1⟩ _).mono ?_
  · rintro pre x W m ⟨hi, hl, hk⟩ hx
    have hlt := (Array.getElem?_eq_some_iff.1 hl).1
    refine ⟨fn, _, assign, body, run_yield (P := P) (args := encs x) hl (hps x), roundIn_of_wpIn hfn (hassign _ _ x W _ ⟨_, run_beginRound hl rfl, ?_⟩)⟩
    let W2 := W.putObj (w.heap.size + 1) (.loop (R .busy none))
    have hl2 : W2.heap[w.heap.size + 1]? = some (.loop (R .busy none)) := World.putObj_heap_same hlt
    have hk2 : W2.heap[w.heap.size]? = some (.deferred (some [])) := (World.putObj_heap_other (by omega)).trans hk
    have leave : ∀ (jump : Option Code) (W3 : World), KeepsFrom w.heap.size W2 W3 →
        W3.heap[w.heap.size + 1]? = some (.loop (R .busy none)) ∧
        (Instr.endRound (w.heap.size + 1) jump).run P W3 = .ok (.bool jump.isNone) (W3.putObj (w.heap.size + 1) (.loop (R (if jump.isNone then .ready else .done) jump))) ∧
        (W3.putObj (w.heap.size + 1) (.loop (R (if jump.isNone then .ready else .done) jump))).heap[w.heap.size + 1]? = some (.loop (R (if jump.isNone then .ready else .done) jump)) ∧
        (W3.putObj (w.heap.size + 1) (.loop (R (if jump.isNone then .ready else .done) jump))).heap[w.heap.size]? = some (.deferred (some [])) := fun jump W3 h3 => by
      have hl3 := h3.same _ _ (by omega) hl2 rfl
      exact ⟨hl3, run_endRound (P := P) jump hl3, World.putObj_heap_same (Array.getElem?_eq_some_iff.1 hl3).1, (World.putObj_heap_other (by omega)).trans (h3.same _ _ (Nat.le_refl _) hk2 rfl)⟩
    refine wpIn_mono (hbody _ _ pre x _ (hI.putObj _ hi (by omega) hl rfl) ((hΦ x).putObj (s := ()) _ hx (by omega) hl rfl)) fun e a3 W3 hp => ?_
    cases e with
    | normal =>
      obtain ⟨h3, hkp, hi3⟩ := hp
      obtain ⟨hl3, hr, q1, q2⟩ := leave none W3 h3
      exact ⟨_, _, hr, .inl ⟨rfl, ⟨hI.putObj _ hi3 (by omega) hl3 rfl, q1, q2⟩, hKt (hKt (hKb _ _ _ _ (by omega) hl rfl rfl) hkp) (hKb _ _ _ _ (by omega) hl3 rfl rfl)⟩⟩
    | ret =>
      obtain ⟨h3, hkp, hi3⟩ := hp
      obtain ⟨hl3, hr, q1, q2⟩ := leave (some .ret) W3 h3
      exact ⟨_, _, hr, .inr ⟨rfl, ⟨_, (hIx _).putObj _ hi3 (by omega) hl3 rfl, q1, q2⟩, hKt (hKt (hKb _ _ _ _ (by omega) hl rfl rfl) hkp) (hKb _ _ _ _ (by omega) hl3 rfl rfl)⟩⟩
    | exit id =>
      obtain ⟨h3, hkp, hi3⟩ := hp
      obtain ⟨hl3, hr, q1, q2⟩ := leave (some (.exit id)) W3 h3
      exact ⟨_, _, hr, .inr ⟨rfl, ⟨_, (hIx _).putObj _ hi3 (by omega) hl3 rfl, q1, q2⟩, hKt (hKt (hKb _ _ _ _ (by omega) hl rfl rfl) hkp) (hKb _ _ _ _ (by omega) hl3 rfl rfl)⟩⟩
    | goto t =>
      obtain ⟨h3, hkp, hi3⟩ := hp
      obtain ⟨hl3, hr, q1, q2⟩ := leave (some (.goto t)) W3 h3
      exact ⟨_, _, hr, .inr ⟨rfl, ⟨_, (hIx _).putObj _ hi3 (by omega) hl3 rfl, q1, q2⟩, hKt (hKt (hKb _ _ _ _ (by omega) hl rfl rfl) hkp) (hKb _ _ _ _ (by omega) hl3 rfl rfl)⟩⟩
    | panic _ => exact hp.elim
    | outgrown => exact hp.elim
  · rintro e W2 ⟨⟨v, rfl⟩, (⟨xs, hS, hi, hl, hk⟩ | ⟨pre, hSp, c, hi, hl, hk⟩)⟩
    · exact ⟨none, _, run_endLoop (P := P) hl (by simp [R, recOf]), hdone _ xs _ (Nat.le_refl _) hS (hI.putObj _ hi (by omega) hl rfl) ((World.putObj_heap_other (by omega)).trans hk)⟩
    · exact ⟨some c, _, run_endLoop (P := P) hl (by simp [R, recOf]), hstop _ c pre _ (Nat.le_refl _) hSp ((hIx c).putObj _ hi (by omega) hl rfl) ((World.putObj_heap_other (by omega)).trans hk)⟩

/-- Leaving with the marks of several such loops: each block for deferred calls is taken over, and is empty. -/
theorem leaves_marks {F : Fence} {n : Nat} {P : Program} {fn : Func} {tmps : Array Value} {R : Ending → World → Prop} (n₀ : Nat) (Pw : World → Prop)
    (hP : ∀ D W, n₀ ≤ D → Pw W → W.heap[D]? = some (.deferred (some [])) → Pw (W.putObj D (.deferred none))) (hend : ∀ W, Pw W → LeavesIn F n P fn tmps R [] .returning W) :
    ∀ (Ds : List Nat) (W : World), Ds.Nodup → (∀ D ∈ Ds, n₀ ≤ D ∧ W.heap[D]? = some (.deferred (some []))) → Pw W → LeavesInM F n P fn tmps R (Ds.map fun D => { target := .collected D, args := #[] }) .returning W
  | [], W, _, _, h => hend W h
  | D :: r, W, hn, hd, h => by
    obtain ⟨hD, hn'⟩ := List.nodup_cons.1 hn
    obtain ⟨h0, h1⟩ := hd D (by simp)
    refine ⟨by simp, .inl ⟨D, _, rfl, run_takeDeferred h1, ?_⟩⟩
    refine leaves_marks n₀ Pw hP hend r _ hn' (fun D' hD' => ?_) (hP D W h0 h h1)
    obtain ⟨q0, q1⟩ := hd D' (by simp [hD'])
    exact ⟨q0, (World.putObj_heap_other (fun e => hD (by rw [← e]; exact hD'))).trans q1⟩

end Go.Proofs.Ytdjjkhefdalokaa

/- Lists of elements in memory: lists of one's own that are appended to, and lists that came from anywhere, over any way to read an element's cells. -/
namespace Go.Proofs.Ytdjjkhefdalokaa
open Go.RowKit

/-- A way to read an element's cells: 'rel w c x F': in the world w the cells c read as x; F: the blocks that it looks into. -/
structure Rep (α : Type) where
  rel : World → List Value → α → List Nat → Prop
  keep : ∀ {w w' : World} {c : List Value} {x : α} {F : List Nat}, rel w c x F → (∀ b ∈ F, ∀ o u, w.cell? ⟨b, o, none⟩ = some u → w'.cell? ⟨b, o, none⟩ = some u) → rel w' c x F
  lt : ∀ {w : World} {c : List Value} {x : α} {F : List Nat}, rel w c x F → ∀ b ∈ F, b < w.heap.size
theorem Rep.ext {α : Type} (R : Rep α) {w w' : World} {c : List Value} {x : α} {F : List Nat} (h : R.rel w c x F) (hE : Ext w w') : R.rel w' c x F := R.keep h fun _ _ _ _ hu => hE.cell hu
/-- A valid area in a cell. -/
def areaR : Rep (List Int) where
  rel w c x F := ∃ b o k, c = [.slice (some ⟨b, o, none⟩) 24 k] ∧ VA w b o x ∧ F = [b]
  keep := by
    rintro w w' c x F ⟨b, o, k, rfl, hv, rfl⟩ h
    exact ⟨b, o, k, rfl, ⟨fun i hi => h b (by simp) _ _ (hv.1 i hi), hv.2⟩, rfl⟩
  lt := by
    rintro w c x F ⟨b, o, k, rfl, hv, rfl⟩ b' hb'
    rw [List.mem_singleton.1 hb']; exact hv.lt
/-- A list of one's own: it begins nowhere, or at the head of a row of one's own. -/
def OwnL {α : Type} (R : Rep α) (n₀ : Nat) (e : TypeId) (size : Nat) (v : Value) (w : World) (l : List α) : Prop :=
  ∃ cs : List (List Value), cs.length = l.length ∧ (∀ c ∈ cs, c.length = size) ∧ w.ownsRow n₀ e size v l.length cs.flatten ∧
    ∀ (j : Nat) x c, l[j]? = some x → cs[j]? = some c → ∃ F, R.rel w c x F ∧ ∀ b ∈ F, v.ownBlock ≠ some b
/-- Behind it what lies below n₀ is as it was. -/
structure Grew (n₀ : Nat) (w w' : World) : Prop where
  size : w.heap.size ≤ w'.heap.size
  ext : ∀ U, Ext U w → U.heap.size ≤ n₀ → Ext U w'
theorem OwnL.nil {α : Type} (R : Rep α) (n₀ : Nat) (e : TypeId) (size : Nat) (w : World) : OwnL R n₀ e size (.slice none 0 0) w [] := ⟨[], rfl, (fun c hc => by cases hc), World.ownsRow_nil w n₀ e size, (fun j x c hx => by simp at hx)⟩
theorem OwnL.ext {α : Type} {R : Rep α} {n₀ : Nat} {e : TypeId} {size : Nat} {v : Value} {w w' : World} {l : List α} (h : OwnL R n₀ e size v w l) (hE : Ext w w') : OwnL R n₀ e size v w' l := by
  obtain ⟨cs, h1, h2, h3, h4⟩ := h
  exact ⟨cs, h1, h2, own_ext h3 hE, fun j x c hx hc => by obtain ⟨F, q1, q2⟩ := h4 j x c hx hc; exact ⟨F, R.ext q1 hE, q2⟩⟩
theorem OwnL.lt {α : Type} {R : Rep α} {n₀ : Nat} {e : TypeId} {size : Nat} {v : Value} {w : World} {l : List α} (h : OwnL R n₀ e size v w l) : ∀ b, v.ownBlock = some b → b < w.heap.size := by
  obtain ⟨cs, h1, h2, h3, h4⟩ := h
  exact fun b hb => (h3.lt b hb).2
/-- What the program says of a slice type and its elements. -/
structure ElemT (P : Program) (t e : TypeId) (z : Value) (size bytes : Nat) : Prop where
  under : P.underlying t = some (.slice e)
  info : (P.info? e).map (fun i => (i.zero, i.size, i.bytes)) = some (some z, size, bytes)
  zs : z.cells.size = size
  pos : 0 < size
theorem flatten_len {size : Nat} : ∀ {cs : List (List Value)}, (∀ c ∈ cs, c.length = size) → cs.flatten.length = cs.length * size
  | [], _ => by simp
  | c :: r, h => by
    rw [List.flatten_cons, List.length_append, flatten_len (fun d hd => h d (List.mem_cons_of_mem _ hd)), h c (by simp), List.length_cons, Nat.add_mul]; omega
theorem flatten_get {size : Nat} : ∀ {cs : List (List Value)}, (∀ c ∈ cs, c.length = size) → ∀ (j : Nat) {c : List Value}, cs[j]? = some c → ∀ i, i < size → cs.flatten[j * size + i]? = c[i]?
  | [], _, j, c, h, _, _ => by simp at h
  | d :: r, h, 0, c, hc, i, hi => by
    simp at hc; subst hc
    rw [List.flatten_cons, Nat.zero_mul, Nat.zero_add, List.getElem?_append_left (by rw [h d (by simp)]; exact hi)]
  | d :: r, h, j + 1, c, hc, i, hi => by
    have hd := h d (by simp)
    rw [List.flatten_cons, List.getElem?_append_right (by rw [hd, Nat.add_mul]; omega), hd, show (j + 1) * size + i - size = j * size + i by rw [Nat.add_mul]; omega]
    exact flatten_get (fun d hd => h d (List.mem_cons_of_mem _ hd)) j (by simpa using hc) i hi
/-- Appending elements whose cells lie one behind the other. -/
theorem own_app {α : Type} {R : Rep α} {P : Program} {t ty e : TypeId} {z : Value} {size bytes : Nat} (E : ElemT P t e z size bytes) {n₀ : Nat} {v : Value} {w : World} {l : List α} (h : OwnL R n₀ e size v w l) (hn : n₀ ≤ w.heap.size)
    {a : Addr} {m c : Nat} {xs : List α} {ds : List (List Value)} (hm : xs.length = m) (hds : ds.length = m) (hsz : ∀ d ∈ ds, d.length = size) (hcell : ∀ j u, ds.flatten[j]? = some u → w.cell? (a.add j) = some u) (h1 : ∀ d ∈ ds, ∀ u ∈ d, u.oneCell' = true)
    (hR : ∀ (j : Nat) x d, xs[j]? = some x → ds[j]? = some d → ∃ F, R.rel w d x F ∧ ∀ b ∈ F, v.ownBlock ≠ some b) (hb : (l.length + m) * bytes ≤ 140737488355328) (hmax : l.length + m ≤ 9223372036854775807) :
    ∃ v' w', (Builtin.append_ #[t, t] ty #[v, .slice (some a) m c]).run P w = .ok v' w' ∧ OwnL R n₀ e size v' w' (l ++ xs) ∧ Grew n₀ w w' ∧ (v' = .slice none 0 0 ∨ ∃ g cap, v' = .slice (some ⟨g, 0, none⟩) (l.length + m) cap ∧ l.length + m ≤ cap) ∧ (v' = .slice none 0 0 → m = 0 ∧ v = .slice none 0 0) := by
  obtain ⟨cs, h2, h3, h4, h5⟩ := h
  obtain ⟨i, hi, hz0, hz1, hz2⟩ := info_parts E.info
  obtain ⟨v', w', hrun, hown, hg, hiff, hat⟩ := run_append_own_at (P := P) w n₀ t ty e i z size bytes E.under hi hz0 hz1 hz2 E.zs E.pos v l.length cs.flatten h4 a m c ds.flatten (by rw [flatten_len hsz, hds]) hcell
    (fun u hu => by obtain ⟨d, hd, hu⟩ := List.mem_flatten.1 hu; exact h1 d hd u hu) (by unfold maxLen; exact hmax) hb hn
  have hnb : ∀ F : List Nat, (∀ b ∈ F, v.ownBlock ≠ some b) → (∀ b ∈ F, b < w.heap.size) → (∀ b ∈ F, v'.ownBlock ≠ some b) ∧ ∀ b ∈ F, ∀ o u, w.cell? ⟨b, o, none⟩ = some u → w'.cell? ⟨b, o, none⟩ = some u := by
    intro F hF hFl
    refine ⟨fun b hbF hv' => ?_, fun b hbF o u hu => hg.cell hu (fun e => hF b hbF e.symm)⟩
    -- the new value's block is the old one, or is new
    rcases hat with e1 | e1
    · exact hF b hbF (by rw [← e1]; exact hv')
    · rw [e1] at hv'; cases hv'; have := hFl _ hbF; omega
  refine ⟨v', w', hrun, ⟨cs ++ ds, by simp [h2, hds, hm], ?_, ?_, ?_⟩, ⟨hg.size, fun U hU hUn => Ext.own' hU h4 hUn hg⟩, ?_, fun e1 => by have := hiff.1 e1; exact ⟨this.2, this.1⟩⟩
  · intro d hd
    rcases List.mem_append.1 hd with hd | hd
    · exact h3 d hd
    · exact hsz d hd
  · rw [List.flatten_append, List.length_append, hm]; exact hown
  · intro j x d hx hd
    rcases Nat.lt_or_ge j l.length with hj | hj
    · rw [List.getElem?_append_left hj] at hx
      rw [List.getElem?_append_left (by rw [h2]; exact hj)] at hd
      obtain ⟨F, q1, q2⟩ := h5 j x d hx hd
      obtain ⟨k1, k2⟩ := hnb F q2 (R.lt q1)
      exact ⟨F, R.keep q1 k2, k1⟩
    · rw [List.getElem?_append_right hj] at hx
      rw [List.getElem?_append_right (by rw [h2]; exact hj), h2] at hd
      obtain ⟨F, q1, q2⟩ := hR _ x d hx hd
      obtain ⟨k1, k2⟩ := hnb F q2 (R.lt q1)
      exact ⟨F, R.keep q1 k2, k1⟩
  · rcases hown.2 with ⟨q, _⟩ | ⟨g, cap, cur, q, _, _, q3, _⟩
    · exact .inl q
    · exact .inr ⟨g, cap, q, q3⟩
/-- Appending one element whose cells lie in a block of their own. -/
theorem own_app1 {α : Type} {R : Rep α} {P : Program} {t ty e : TypeId} {z : Value} {size bytes : Nat} (E : ElemT P t e z size bytes) {n₀ : Nat} {v : Value} {w : World} {l : List α} (h : OwnL R n₀ e size v w l) (hn : n₀ ≤ w.heap.size) {k : Nat} (hl : l.length = k)
    {O c : Nat} {x : α} {d : List Value} {F : List Nat} (hsz : d.length = size) (hcell : ∀ j u, d[j]? = some u → w.cell? ⟨O, j, none⟩ = some u) (h1 : ∀ u ∈ d, u.oneCell' = true)
    (hR : R.rel w d x F) (hF : ∀ b ∈ F, v.ownBlock ≠ some b) (hb : (k + 1) * bytes ≤ 140737488355328) (hmax : k + 1 ≤ 9223372036854775807) :
    ∃ g cap w', (Builtin.append_ #[t, t] ty #[v, .slice (some ⟨O, 0, none⟩) 1 c]).run P w = .ok (.slice (some ⟨g, 0, none⟩) (k + 1) cap) w' ∧ OwnL R n₀ e size (.slice (some ⟨g, 0, none⟩) (k + 1) cap) w' (l ++ [x]) ∧ Grew n₀ w w' := by
  subst hl
  obtain ⟨v', w', h2, h3, h4, h5, h6⟩ := own_app E h hn (a := ⟨O, 0, none⟩) (m := 1) (c := c) (xs := [x]) (ds := [d]) rfl rfl (by simpa using hsz) (fun j u hj => by
      rw [Addr.add_mid, Nat.zero_add]; exact hcell j u (by simpa using hj)) (by simpa using h1) (fun j y e hy he => by
      match j, hy, he with
      | 0, hy, he => simp at hy he; subst hy he; exact ⟨F, hR, hF⟩
      | _ + 1, hy, _ => simp at hy) hb hmax
  rcases h5 with rfl | ⟨g, cap, rfl, _⟩
  · have := h6 rfl; omega
  · exact ⟨g, cap, w', h2, h3, h4⟩
theorem cells1 {w : World} {O : Nat} {x : Value} (h : w.cell? ⟨O, 0, none⟩ = some x) : ∀ j u, [x][j]? = some u → w.cell? ⟨O, j, none⟩ = some u
  | 0, u, hu => by simp at hu; subst hu; exact h
  | _ + 1, u, hu => by simp at hu
theorem cells2 {w : World} {O : Nat} {x y : Value} (h : w.cell? ⟨O, 0, none⟩ = some x) (h2 : w.cell? ⟨O, 1, none⟩ = some y) : ∀ j u, [x, y][j]? = some u → w.cell? ⟨O, j, none⟩ = some u
  | 0, u, hu => by simp at hu; subst hu; exact h
  | 1, u, hu => by simp at hu; subst hu; exact h2
  | _ + 2, u, hu => by simp at hu
theorem away1 {v : Value} {m B : Nat} (h : ∀ b, v.ownBlock = some b → b < m) (h1 : m ≤ B) : ∀ b ∈ [B], v.ownBlock ≠ some b := fun b hb he => by
  have := h b he; rw [List.mem_singleton.1 hb] at this; omega
theorem away2 {v : Value} {m B C : Nat} (h : ∀ b, v.ownBlock = some b → b < m) (h1 : m ≤ B) (h2 : m ≤ C) : ∀ b ∈ [B, C], v.ownBlock ≠ some b := fun b hb he => by
  have := h b he
  rcases List.mem_cons.1 hb with rfl | hb
  · omega
  · rw [List.mem_singleton.1 hb] at this; omega
theorem OwnL.base {α : Type} {R : Rep α} {n₀ : Nat} {e : TypeId} {size : Nat} {v : Value} {w : World} {l : List α} (h : OwnL R n₀ e size v w l) : ∀ b, v.ownBlock = some b → n₀ ≤ b := by
  obtain ⟨cs, h1, h2, h3, h4⟩ := h
  exact fun b hb => (h3.lt b hb).1
theorem below1 {v : Value} {m B : Nat} (h : ∀ b, v.ownBlock = some b → m ≤ b) (h1 : B < m) : ∀ b ∈ [B], v.ownBlock ≠ some b := fun b hb he => by
  have := h b he; rw [List.mem_singleton.1 hb] at this; omega
theorem below2 {v : Value} {m B C : Nat} (h : ∀ b, v.ownBlock = some b → m ≤ b) (h1 : B < m) (h2 : C < m) : ∀ b ∈ [B, C], v.ownBlock ≠ some b := fun b hb he => by
  have := h b he
  rcases List.mem_cons.1 hb with rfl | hb
  · omega
  · rw [List.mem_singleton.1 hb] at this; omega
/-- An empty slice with no room, in a block of its own. -/
theorem sn_newS0 {P : Program} {ev : Operand → Value} {oi : Oper} {w : World} {N : Value → World → Prop} {t : TypeId} (h1 : (execOp ev oi).run P w = .ok (.value (.slice (some ⟨w.heap.size, 0, none⟩) 0 0)) (w.alloc (.cells #[] t)))
    (h : ∀ O X, w.heap.size = O → X.heap.size = O + 1 → Ext w X → X.heap[O]? = some (.cells #[] t (0, 0)) → N (.slice (some ⟨O, 0, none⟩) 0 0) X) : StepN P ev oi w N :=
  sn_eff h1 (h _ _ rfl (by simp) (Ext.alloc (Ext.refl _) _) (heap_alloc_new w _))
theorem own_empty {w : World} {base O size : Nat} {e : TypeId} (h : w.heap[O]? = some (.cells #[] e (0, 0))) (hb : base ≤ O) : w.ownsRow base e size (.slice (some ⟨O, 0, none⟩) 0 0) 0 [] :=
  ⟨by simp, .inr ⟨O, 0, #[], rfl, hb, h, Nat.le_refl _, by unfold maxLen; omega, by simp, by simp⟩⟩
theorem OwnL.empty {α : Type} (R : Rep α) {n₀ O : Nat} {e : TypeId} {size : Nat} {w : World} (h : w.heap[O]? = some (.cells #[] e (0, 0))) (hb : n₀ ≤ O) : OwnL R n₀ e size (.slice (some ⟨O, 0, none⟩) 0 0) w [] :=
  ⟨[], rfl, (fun c hc => by cases hc), own_empty h hb, (fun j x c hx => by simp at hx)⟩
/-- Appending nothing. -/
theorem app_none {P : Program} {w : World} {t e ty : TypeId} {z : Value} {size bytes : Nat} (E : ElemT P t e z size bytes) {b : Option Addr} {n c : Nat} {a : Option Addr} {k : Nat} (h : n ≤ c) :
    (Builtin.append_ #[t, t] ty #[.slice b n c, .slice a 0 k]).run P w = .ok (.slice b n c) w := by
  obtain ⟨i, hi, hz0, hz1, hz2⟩ := info_parts E.info
  cases a <;> cases b <;> simp [Builtin.append_, run_underlying E.under, sizeOf, typeInfo, hi, Builtin.lenOf, Builtin.firstCells, loadCells, loadCellsFrom, storeCells, h]
/-- Cells that come in groups: the cells of the whole. -/
theorem flat_cells {w : World} {b off n size : Nat} {f : Nat → List Value} (hf : ∀ i, i < n → (f i).length = size) (h : ∀ i, i < n → ∀ j u, (f i)[j]? = some u → w.cell? ⟨b, off + i * size + j, none⟩ = some u) :
    ∀ m, m ≤ n → ∀ j u, (((List.range m).map f).flatten)[j]? = some u → w.cell? ((⟨b, off, none⟩ : Addr).add j) = some u := by
  intro m
  induction m with
  | zero => intro _ j u hu; simp at hu
  | succ m ih =>
    intro hm j u hu
    have hlen : (((List.range m).map f).flatten).length = m * size := by
      rw [flatten_len (size := size) (fun c hc => by obtain ⟨i, hi, rfl⟩ := List.mem_map.1 hc; exact hf i (by have := List.mem_range.1 hi; omega))]; simp
    rw [List.range_succ, List.map_append, List.flatten_append] at hu
    rcases Nat.lt_or_ge j (m * size) with hj | hj
    · rw [List.getElem?_append_left (by rw [hlen]; exact hj)] at hu
      exact ih (by omega) j u hu
    · rw [List.getElem?_append_right (by rw [hlen]; exact hj), hlen] at hu
      have := h m (by omega) (j - m * size) u (by simpa using hu)
      rw [Addr.add_mid, show off + j = off + m * size + (j - m * size) by omega]; exact this
/-- As R, where all that is looked into lies at n₀ or behind it. -/
def freshR {α : Type} (n₀ : Nat) (R : Rep α) : Rep α where
  rel w c x F := R.rel w c x F ∧ ∀ b ∈ F, n₀ ≤ b
  keep := fun h hk => ⟨R.keep h.1 hk, h.2⟩
  lt := fun h => R.lt h.1
theorem OwnL.weaken {α : Type} {R : Rep α} {m n₀ : Nat} {e : TypeId} {size : Nat} {v : Value} {w : World} {l : List α} (h : OwnL (freshR m R) n₀ e size v w l) : OwnL R n₀ e size v w l := by
  obtain ⟨cs, h1, h2, h3, h4⟩ := h
  exact ⟨cs, h1, h2, h3, fun j x c hx hc => by obtain ⟨F, q1, q2⟩ := h4 j x c hx hc; exact ⟨F, q1.1, q2⟩⟩
theorem fresh1 {n B : Nat} (h : n ≤ B) : ∀ b ∈ [B], n ≤ b := fun b hb => by rw [List.mem_singleton.1 hb]; exact h
theorem fresh2 {n B C : Nat} (h : n ≤ B) (h2 : n ≤ C) : ∀ b ∈ [B, C], n ≤ b := fun b hb => by
  rcases List.mem_cons.1 hb with rfl | hb
  · exact h
  · rw [List.mem_singleton.1 hb]; exact h2
theorem ex_append {P : Program} {ev : Operand → Value} {o : Oper} {w : World} {x y : Operand} {t1 t2 : TypeId} {v s v' : Value} {w' : World} (hop : o.op = .call { callee := .builtin .append, args := #[x, y], argTypes := #[t1, t2] }) (hx : ev x = v) (hy : ev y = s)
    (h : (Builtin.append_ #[t1, t2] o.type #[v, s]).run P w = .ok v' w') : (execOp ev o).run P w = .ok (.value v') w' := by
  simp [execOp, hop, resolve, invoke, builtin, hx, hy, h, Result.andThen]

end Go.Proofs.Ytdjjkhefdalokaa

/- The walk over a list of what has been written, within the rounds of a range over a function, and in functions that hold such loops or that yield. -/
namespace Go.Proofs.Ytdjjkhefdalokaa
open Go.RowKit

/-- The fence of a function's activation (none), or of a round of the loop l. -/
def FR (r : Option Nat) : Fence := { Fence.wide with round := r }
def marks (Ds : List Nat) : List Deferred := Ds.map fun D => { target := .collected D, args := #[] }

section
variable {P : Program} {n : Nat} {L : List Value} {ws : List (Nat × Value)} {w : World} {Q : Exit → Act → World → Prop} {r : Option Nat} {m : Nat} {Ds : List Nat}

theorem calls_fr {f : FuncId} {args : Array Value} {R : Ending → World → Prop} (h : Calls P f args w R) : CallsIn (FR r) m P f args w R := (callsIn_wide (n := m)).2 h
theorem semAt_of {ev : Operand → Value} {o : Oper} {nx : Next} {w' : World} (h : (execOp ev o).run P w = .ok nx w') (hd : ∀ d, nx ≠ .defer d) : (o.semAt r ev).run P w = .ok nx w' := by
  rw [Oper.semAt_eq]
  · exact h
  · intro c hc
    simp only [execOp, hc, Sem.run_bind] at h
    cases e : (resolve ev c o.type).run P w with
    | ok d w1 => rw [e] at h; simp [Result.andThen] at h; exact hd _ h.1.symm
    | halt x w1 => rw [e] at h; simp [Result.andThen] at h
theorem StepN.wpI {ev : Operand → Value} {oi : Oper} {N : Value → World → Prop} {a : Act} {K : Act → World → Prop} (h : StepN P ev oi w N) (he : a.eval = ev) (hK : ∀ v w', N v w' → K (a.put oi.dst v) w') : Oper.wpIn (FR r) m P oi a w K Q := by
  refine ⟨fun _ _ => trivial, ?_⟩
  rw [he]
  show oi.uponIn (FR r) m P a K Q ((oi.semAt r ev).run P w)
  rcases h with ⟨v, w', h1, h3⟩ | ⟨w', h1, h3⟩ | ⟨f, args, h1, h2⟩
  · rw [semAt_of h1 (by simp), Oper.uponIn_value]; exact hK v w' h3
  · rw [semAt_of h1 (by simp), Oper.uponIn_skip]; exact hK undef w' h3
  · rw [semAt_of h1 (by simp), Oper.uponIn_enter]
    exact ⟨fun h => by simp [FR, Fence.wide] at h, calls_fr (h2.mono fun e w' ⟨v, he, hn⟩ => by subst he; exact hK v w' hn)⟩
/-- A call of yield. -/
def StepY (P : Program) (m : Nat) (ev : Operand → Value) (oi : Oper) (w : World) (N : Value → World → Prop) : Prop :=
  ∃ l fn tmps assign body, (execOp ev oi).run P w = .ok (.round l fn tmps assign body) w ∧ RoundIn Fence.wide (m - 1) P l fn tmps assign body w fun e w' => ∃ v, e = .returned v ∧ N v w'
theorem StepY.wpI {ev : Operand → Value} {oi : Oper} {N : Value → World → Prop} {a : Act} {K : Act → World → Prop} (h : StepY P m ev oi w N) (he : a.eval = ev) (hK : ∀ v w', N v w' → K (a.put oi.dst v) w') : Oper.wpIn (FR r) m P oi a w K Q := by
  refine ⟨fun _ _ => trivial, ?_⟩
  rw [he]
  show oi.uponIn (FR r) m P a K Q ((oi.semAt r ev).run P w)
  obtain ⟨l, fn, tmps, assign, body, h1, h2⟩ := h
  rw [semAt_of h1 (by simp), Oper.uponIn_round]
  exact ⟨fun h => by simp [FR, Fence.wide] at h, (RoundIn.mono h2 fun e w' ⟨v, he, hn⟩ => by subst he; exact hK v w' hn : RoundIn Fence.wide (m - 1) P l fn tmps assign body w _)⟩
theorem sy_yield {ev : Operand → Value} {oi : Oper} {x : Operand} {ys : Array Operand} {ts : Array TypeId} {l : Nat} {args : Array Value} {N : Value → World → Prop} (hop : oi.op = .call { callee := .value x, args := ys, argTypes := ts }) (hx : ev x = .func (.yield l) #[] #[]) (hy : ys.map ev = args)
    (h : YieldAt Fence.wide (m - 1) P l args w fun e w' => ∃ v, e = .returned v ∧ N v w') : StepY P m ev oi w N := by
  obtain ⟨fn, tmps, assign, body, h1, h2⟩ := h
  refine ⟨l, fn, tmps, assign, body, ?_, h2⟩
  simp only [execOp, hop, resolve, hx, hy, Sem.run_bind]
  simp [Result.andThen, invoke, h1, Deferred.ofValue]

structure ICW (P : Program) (r : Option Nat) (m : Nat) (Ds : List Nat) (c : Code) (Q : Exit → Act → World → Prop) (n : Nat) (L : List Value) (ws : List (Nat × Value)) (w : World) : Prop where
  out : Bd n L ws → c.wpIn (FR r) m P Q ⟨(setAll L ws).toArray, marks Ds⟩ w
structure IQW (Ds : List Nat) (Q : Exit → Act → World → Prop) (e : Exit) (n : Nat) (L : List Value) (ws : List (Nat × Value)) (w : World) : Prop where
  out : Bd n L ws → Q e ⟨(setAll L ws).toArray, marks Ds⟩ w
structure IPL (P : Program) (r : Option Nat) (m : Nat) (Ds : List Nat) (ops rest : List Oper) (Q : Exit → Act → World → Prop) (n : Nat) (L : List Value) (ws : List (Nat × Value)) (w : World) : Prop where
  out : Bd n L ws → wpListIn (FR r) m P ops.toArray Q rest ⟨(setAll L ws).toArray, marks Ds⟩ w

/-- A function's end, with the marks of its loops. -/
def IBody (m : Nat) (P : Program) (fn : Func) (R : Ending → World → Prop) : Exit → Act → World → Prop
  | .normal, a, w => bodyPostM Fence.wide m P fn R .normal a w
  | .ret, a, w => bodyPostM Fence.wide m P fn R .ret a w
  | _, _, _ => False
theorem icalls {f : FuncId} {fn : Func} {c : Code} {av : List Value} {R : Ending → World → Prop} (n : Nat) (ws : List (Nat × Value)) (hf : P.funcs[f]? = some fn) (hb : fn.body = some c) (hn : fn.ntmps = n)
    (he : av ++ List.replicate (n - av.length) undef = setAll (List.replicate n undef) ws) (hl : ws.all (fun p => Nat.blt p.1 n) = true)
    (h : ∀ L m, ICW P none m [] c (IBody m P fn R) n L ws w) : CallsIn Fence.wide m P f av.toArray w R := by
  refine callsIn_of_wp_marks hf hb trivial ?_ rfl
  have e : (av.toArray ++ Array.replicate (fn.ntmps - av.toArray.size) undef : Array Value) = (setAll (List.replicate n undef) ws).toArray := by
    rw [hn, ← he]; simp
  rw [e]
  refine Go.wpIn_mono ((h _ m).out ⟨List.length_replicate, fun p hp => Nat.blt_eq.mp (List.all_eq_true.1 hl p hp)⟩) fun e a' w' q => ?_
  cases e with
  | normal => exact q
  | ret => exact q
  | _ => exact q.elim
theorem icalls_cw {f : FuncId} {fn : Func} {c : Code} {av : List Value} {R : Ending → World → Prop} (n : Nat) (ws : List (Nat × Value)) (hf : P.funcs[f]? = some fn) (hb : fn.body = some c) (hn : fn.ntmps = n)
    (he : av ++ List.replicate (n - av.length) undef = setAll (List.replicate n undef) ws) (hl : ws.all (fun p => Nat.blt p.1 n) = true)
    (h : ∀ L m, ICW P none m [] c (IBody m P fn R) n L ws w) : Calls P f av.toArray w R := (callsIn_wide (n := 0)).1 (icalls n ws hf hb hn he hl h)

theorem icw_seq {x y : Code} (h : ICW P r m Ds x (Exit.then (y.wpIn (FR r) m P Q) Q) n L ws w) : ICW P r m Ds (.seq x y) Q n L ws w := ⟨fun b => wpIn_seq (h.out b)⟩
theorem icw_block {id : Nat} {c : Code} (h : ICW P r m Ds c (Exit.inBlock id Q) n L ws w) : ICW P r m Ds (.block id c) Q n L ws w := ⟨fun b => wpIn_block (h.out b)⟩
theorem icw_skip (h : IQW Ds Q .normal n L ws w) : ICW P r m Ds .skip Q n L ws w := ⟨fun b => wpIn_skip (h.out b)⟩
theorem icw_exit {id : Nat} (h : IQW Ds Q (.exit id) n L ws w) : ICW P r m Ds (.exit id) Q n L ws w := ⟨fun b => wpIn_exit (h.out b)⟩
theorem icw_ret (h : IQW Ds Q .ret n L ws w) : ICW P r m Ds .ret Q n L ws w := ⟨fun b => wpIn_ret (h.out b)⟩
theorem icw_plain {id : Nat} {l : List Oper} (h : IPL P r m Ds l l Q n L ws w) : ICW P r m Ds (.region id l.toArray false) Q n L ws w := ⟨fun b => wpIn_region_lit (h.out b)⟩
theorem icw_t {c : Operand} {x y : Code} (hc : evalW L ws c = .bool true) (h : ICW P r m Ds x Q n L ws w) : ICW P r m Ds (.cond c x y) Q n L ws w := ⟨fun b => wpIn_cond_true (by rw [eval_W b.lt]; exact hc) (h.out b)⟩
theorem icw_f {c : Operand} {x y : Code} (hc : evalW L ws c = .bool false) (h : ICW P r m Ds y Q n L ws w) : ICW P r m Ds (.cond c x y) Q n L ws w := ⟨fun b => wpIn_cond_false (by rw [eval_W b.lt]; exact hc) (h.out b)⟩

theorem iqw_then {y : Code} (h : ICW P r m Ds y Q n L ws w) : IQW Ds (Exit.then (y.wpIn (FR r) m P Q) Q) .normal n L ws w := ⟨h.out⟩
theorem iqw_then_ret {K : Act → World → Prop} (h : IQW Ds Q .ret n L ws w) : IQW Ds (Exit.then K Q) .ret n L ws w := ⟨h.out⟩
theorem iqw_then_exit {K : Act → World → Prop} {id : Nat} (h : IQW Ds Q (.exit id) n L ws w) : IQW Ds (Exit.then K Q) (.exit id) n L ws w := ⟨h.out⟩
theorem iqw_block {id : Nat} (h : IQW Ds Q .normal n L ws w) : IQW Ds (Exit.inBlock id Q) .normal n L ws w := ⟨h.out⟩
theorem iqw_block_ret {id : Nat} (h : IQW Ds Q .ret n L ws w) : IQW Ds (Exit.inBlock id Q) .ret n L ws w := ⟨h.out⟩
theorem iqw_block_out {id : Nat} (h : IQW Ds Q .normal n L ws w) : IQW Ds (Exit.inBlock id Q) (.exit id) n L ws w := ⟨fun b => by
  show (if id = id then _ else _)
  rw [if_pos rfl]; exact h.out b⟩
theorem iqw_block_on {id id' : Nat} (hne : id' ≠ id) (h : IQW Ds Q (.exit id') n L ws w) : IQW Ds (Exit.inBlock id Q) (.exit id') n L ws w := ⟨fun b => by
  show (if id' = id then _ else _)
  rw [if_neg hne]; exact h.out b⟩

theorem ipl_nil {ops : List Oper} (h : IQW Ds Q .normal n L ws w) : IPL P r m Ds ops [] Q n L ws w := ⟨h.out⟩
theorem wantP_specD {ops : List Oper} {o : Oper} {b : Bool} (h : Bd n L ws) (hok : ∀ x ∈ ops, ∀ d, x.dst = some d → d < n) (hw : wantP ops L ws o.guard = b) :
    Region.wanted o (yielded ops.toArray (⟨(setAll L ws).toArray, marks Ds⟩ : Act).tmps) = b := wantP_spec h hok hw
theorem ipl_take {ops rest : List Oper} {o : Oper} {d : Nat} (v : Value) (hdst : o.dst = some d) (hok : dstOk n ops = true) (hd : Nat.blt d n = true) (hw : wantP ops L ws o.guard = true)
    (hr : (execOp (evalW L ws) o).run P w = .ok (.value v) w) (h : IPL P r m Ds ops rest Q n L ((d, v) :: ws) w) : IPL P r m Ds ops (o :: rest) Q n L ws w := ⟨fun b => by
  refine wpListIn_step fun K hK => ?_
  rw [if_pos (wantP_specD b (dstOk_spec hok) hw)]
  refine StepN.wpI (N := fun v' w' => v' = v ∧ w' = w) (.inl ⟨v, w, hr, rfl, rfl⟩) (eval_W b.lt _) fun v' w' ⟨e1, e2⟩ => hK _ _ ?_
  subst e1 e2
  rw [put_W, hdst]; exact h.out (b.put hd)⟩
theorem ipl_skip {ops rest : List Oper} {o : Oper} {d : Nat} (hdst : o.dst = some d) (hok : dstOk n ops = true) (hd : Nat.blt d n = true) (hw : wantP ops L ws o.guard = false)
    (h : IPL P r m Ds ops rest Q n L ((d, undef) :: ws) w) : IPL P r m Ds ops (o :: rest) Q n L ws w := ⟨fun b => by
  refine wpListIn_step fun K hK => ?_
  rw [if_neg (by rw [wantP_specD b (dstOk_spec hok) hw]; simp)]
  refine ⟨fun _ _ => trivial, hK _ _ ?_⟩
  rw [put_W, hdst]; exact h.out (b.put hd)⟩
theorem ipl_step {ops rest : List Oper} {o : Oper} {d : Nat} (hdst : o.dst = some d) (hok : dstOk n ops = true) (hd : Nat.blt d n = true) (hw : wantP ops L ws o.guard = true)
    (h : StepN P (evalW L ws) o w fun v w' => IPL P r m Ds ops rest Q n L ((d, v) :: ws) w') : IPL P r m Ds ops (o :: rest) Q n L ws w := ⟨fun b => by
  refine wpListIn_step fun K hK => ?_
  rw [if_pos (wantP_specD b (dstOk_spec hok) hw)]
  exact h.wpI (eval_W b.lt _) fun v w' hn => hK _ _ (by rw [put_W, hdst]; exact hn.out (b.put hd))⟩
theorem ipl_yield {ops rest : List Oper} {o : Oper} {d : Nat} (hdst : o.dst = some d) (hok : dstOk n ops = true) (hd : Nat.blt d n = true) (hw : wantP ops L ws o.guard = true)
    (h : StepY P m (evalW L ws) o w fun v w' => IPL P r m Ds ops rest Q n L ((d, v) :: ws) w') : IPL P r m Ds ops (o :: rest) Q n L ws w := ⟨fun b => by
  refine wpListIn_step fun K hK => ?_
  rw [if_pos (wantP_specD b (dstOk_spec hok) hw)]
  exact h.wpI (eval_W b.lt _) fun v w' hn => hK _ _ (by rw [put_W, hdst]; exact hn.out (b.put hd))⟩
theorem ipl_put {ops rest : List Oper} {o : Oper} (hdst : o.dst = none) (hok : dstOk n ops = true) (hw : wantP ops L ws o.guard = true)
    (h : StepN P (evalW L ws) o w fun _ w' => IPL P r m Ds ops rest Q n L ws w') : IPL P r m Ds ops (o :: rest) Q n L ws w := ⟨fun b => by
  refine wpListIn_step fun K hK => ?_
  rw [if_pos (wantP_specD b (dstOk_spec hok) hw)]
  exact h.wpI (eval_W b.lt _) fun v w' hn => hK _ _ (by rw [put_W, hdst]; exact hn.out b)⟩
theorem icw_clean {c : Code} (ks : List Nat) {ws' : List (Nat × Value)} (hp : pickW ws ks = some ws') (h : ∀ L', ICW P r m Ds c Q n L' ws' w) : ICW P r m Ds c Q n L ws w := ⟨fun b => by
  have := (h (setAll L ws)).out (pick_bd hp b)
  rwa [pick_set hp] at this⟩
theorem icw_join {c : Code} (R : List (Nat × Value) → World → Prop) (main : (∀ L' ws' w', R ws' w' → IQW Ds Q .normal n L' ws' w') → ICW P r m Ds c Q n L ws w) (rest : ∀ L' ws' w', R ws' w' → IQW Ds Q .normal n L' ws' w') : ICW P r m Ds c Q n L ws w := main rest
theorem iqw_leaf {R : List (Nat × Value) → World → Prop} (hJ : ∀ L' ws' w', R ws' w' → IQW Ds Q .normal n L' ws' w') (ks : List Nat) {ws' : List (Nat × Value)} (hp : pickW ws ks = some ws') (h : R ws' w) : IQW Ds Q .normal n L ws w := ⟨fun b => by
  have := (hJ (setAll L ws) ws' w h).out (pick_bd hp b)
  rwa [pick_set hp] at this⟩
def ILoopK (n : Nat) (Ds : List Nat) (Inv : List (Nat × Value) → World → Nat → Prop) (m : Nat) : Act → World → Prop := fun a w => ∃ L' ws' m', m' < m ∧ Bd n L' ws' ∧ a = ⟨(setAll L' ws').toArray, marks Ds⟩ ∧ Inv ws' w m'
open Classical in
theorem icw_loop {c : Code} (ks : List Nat) (Inv : List (Nat × Value) → World → Nat → Prop) {ws0 : List (Nat × Value)} (hp : pickW ws ks = some ws0) (m0 : Nat) (h0 : Inv ws0 w m0)
    (round : ∀ k L' ws' w', Inv ws' w' k → ICW P r m Ds c (Exit.then (ILoopK n Ds Inv k) Q) n L' ws' w') : ICW P r m Ds (.loop c) Q n L ws w := ⟨fun b => by
  let J : Nat → Act → World → Prop := fun k a w => ∃ L' ws', Bd n L' ws' ∧ a = ⟨(setAll L' ws').toArray, marks Ds⟩ ∧ Inv ws' w k
  let μ : Act → World → Nat := fun a w => if h : ∃ k, J k a w then Classical.choose (least h) else 0
  have hμ : ∀ a w (h : ∃ k, J k a w), J (μ a w) a w ∧ ∀ k, J k a w → μ a w ≤ k := fun a w h => by
    have e : μ a w = Classical.choose (least h) := dif_pos h
    rw [e]; exact Classical.choose_spec (least h)
  refine wpIn_loop (fun a w => ∃ k, J k a w) μ ⟨m0, setAll L ws, ws0, pick_bd hp b, by rw [pick_set hp], h0⟩ fun a w h => ?_
  obtain ⟨⟨L', ws', hb, ha, hI⟩, _⟩ := hμ a w h
  have := (round (μ a w) L' ws' w hI).out hb
  rw [← ha] at this
  refine Go.wpIn_mono this (fun e a' w' q => ?_)
  cases e with
  | normal =>
    obtain ⟨L2, ws2, m2, hlt, hb2, ha2, hI2⟩ := q
    have hJ : J m2 a' w' := ⟨L2, ws2, hb2, ha2, hI2⟩
    exact ⟨⟨m2, hJ⟩, Nat.lt_of_le_of_lt ((hμ a' w' ⟨m2, hJ⟩).2 m2 hJ) hlt⟩
  | _ => exact q⟩
theorem iqw_round {Inv : List (Nat × Value) → World → Nat → Prop} {k : Nat} (ks : List Nat) {ws' : List (Nat × Value)} (hp : pickW ws ks = some ws') (m' : Nat) (hlt : m' < k) (h : Inv ws' w m') : IQW Ds (Exit.then (ILoopK n Ds Inv k) Q) .normal n L ws w := ⟨fun b =>
  ⟨setAll L ws, ws', m', hlt, pick_bd hp b, by rw [pick_set hp], h⟩⟩
end

/-! The loops' own book-keeping turns objects that are no cells, at n₀ or behind it. -/
structure Mv (n₀ : Nat) (A B : World) : Prop where
  os : B.os = A.os
  tape : B.tape = A.tape
  output : B.output = A.output
  size : A.heap.size ≤ B.heap.size
  cells : ∀ (k : Nat) (o : Obj), A.heap[k]? = some o → o.isCells = true → B.heap[k]? = some o
  below : ∀ (k : Nat), k < n₀ → k < A.heap.size → B.heap[k]? = A.heap[k]?
theorem Mv.refl (n₀ : Nat) (A : World) : Mv n₀ A A := ⟨rfl, rfl, rfl, Nat.le_refl _, fun _ _ h _ => h, fun _ _ _ => rfl⟩
theorem Mv.trans {n₀ : Nat} {A B C : World} (h : Mv n₀ A B) (k : Mv n₀ B C) : Mv n₀ A C :=
  ⟨k.os.trans h.os, k.tape.trans h.tape, k.output.trans h.output, T h.size k.size, fun i o hi ho => k.cells i o (h.cells i o hi ho) ho, fun i hi hl => (k.below i hi (Nat.lt_of_lt_of_le hl h.size)).trans (h.below i hi hl)⟩
theorem Mv.of_ext {n₀ : Nat} {A B : World} (h : Ext A B) : Mv n₀ A B :=
  ⟨h.os, h.tape, h.output, h.size, fun k _ hk _ => (h.block k (Array.getElem?_eq_some_iff.1 hk).1).trans hk, fun k _ hk => h.block k hk⟩
theorem Mv.putObj {n₀ : Nat} {A : World} {k : Nat} {o : Obj} (o' : Obj) (hk : n₀ ≤ k) (ho : A.heap[k]? = some o) (hc : o.isCells = false) : Mv n₀ A (A.putObj k o') :=
  ⟨rfl, rfl, rfl, by simp, fun j u hj hu => (World.putObj_heap_other (fun e => by subst e; rw [ho] at hj; cases hj; rw [hc] at hu; cases hu)).trans hj, fun j hj _ => World.putObj_heap_other (by omega)⟩
theorem Mv.ext {n₀ : Nat} {A B U : World} (h : Mv n₀ A B) (hU : Ext U A) (hn : U.heap.size ≤ n₀) : Ext U B :=
  ⟨h.os.trans hU.os, h.tape.trans hU.tape, h.output.trans hU.output, T hU.size h.size, fun k hk => (h.below k (Nat.lt_of_lt_of_le hk hn) (Nat.lt_of_lt_of_le hk hU.size)).trans (hU.block k hk)⟩
theorem Mv.cell {n₀ : Nat} {A B : World} (h : Mv n₀ A B) {p : Addr} {v : Value} (hv : A.cell? p = some v) : B.cell? p = some v := by
  obtain ⟨o, ho, hc⟩ := cells_of_cell hv
  exact (World.cell?_of_block ((h.cells _ o ho hc).trans ho.symm)).trans hv
theorem Mv.froz {n₀ : Nat} {A B : World} (h : Mv n₀ A B) {p : Addr} {v : Value} (hv : A.cell? p = some v) : B.frozen? p = A.frozen? p := by
  obtain ⟨o, ho, hc⟩ := cells_of_cell hv
  exact World.frozen?_of_block ((h.cells _ o ho hc).trans ho.symm)
theorem Mv.box {n₀ : Nat} {A B : World} (h : Mv n₀ A B) {b o : Nat} {v : Value} (hv : BoxAt A b o v) : BoxAt B b o v := ⟨h.cell hv.1, by rw [h.froz hv.1]; exact hv.2⟩
theorem Mv.va {n₀ : Nat} {A B : World} (h : Mv n₀ A B) {b o : Nat} {l : List Int} (hv : VA A b o l) : VA B b o l := ⟨fun i hi => h.cell (hv.1 i hi), hv.2⟩
theorem Mv.rows {n₀ : Nat} {A B : World} (h : Mv n₀ A B) {b : Nat} {l : List Int} (hv : RowsAt A b l) : RowsAt B b l := ⟨hv.1, fun i hi => h.cell (hv.cell hi), fun i hi => by rw [h.froz (hv.cell hi)]; exact hv.free hi⟩
theorem Mv.ints {n₀ : Nat} {A B : World} (h : Mv n₀ A B) {a : Option Addr} {l : List Int} (hv : IntsAt A a l) : IntsAt B a l := by
  rcases hv with q | ⟨b, off, rfl, q⟩
  · exact .inl q
  · exact .inr ⟨b, off, rfl, fun i hi => h.cell (q i hi)⟩
theorem Mv.mark {n₀ : Nat} {A B : World} (h : Mv n₀ A B) {D : Nat} {x : Option (List Deferred)} (hD : A.heap[D]? = some (.deferred x)) (hlt : D < n₀) : B.heap[D]? = some (.deferred x) :=
  (h.below D hlt (Array.getElem?_eq_some_iff.1 hD).1).trans hD
theorem Mv.own {α : Type} {R : Rep α} {n₀ n₁ : Nat} {e : TypeId} {size : Nat} {v : Value} {A B : World} {l : List α} (h : Mv n₁ A B) (ho : OwnL R n₀ e size v A l) : OwnL R n₀ e size v B l := by
  obtain ⟨cs, h1, h2, h3, h4⟩ := ho
  refine ⟨cs, h1, h2, ⟨h3.1, ?_⟩, fun j x c hx hc => ?_⟩
  · rcases h3.2 with q | ⟨g, cap, cur, q, hb, hcur, rest⟩
    · exact .inl q
    · exact .inr ⟨g, cap, cur, q, hb, h.cells _ _ hcur rfl, rest⟩
  · obtain ⟨F, q1, q2⟩ := h4 j x c hx hc
    exact ⟨F, R.keep q1 (fun b _ o u hu => h.cell hu), q2⟩

/-! What a round keeps. -/
/-- Cells keep their content, but for the blocks of X. -/
structure KeptX (X : Nat → Prop) (A B : World) : Prop where
  size : A.heap.size ≤ B.heap.size
  cells : ∀ (k : Nat) (o : Obj), A.heap[k]? = some o → o.isCells = true → ¬ X k → B.heap[k]? = some o
theorem KeptX.trans {X : Nat → Prop} {A B C : World} (h : KeptX X A B) (k : KeptX X B C) : KeptX X A C := ⟨T h.size k.size, fun i o hi ho hx => k.cells i o (h.cells i o hi ho hx) ho hx⟩
theorem KeptX.of_mv {X : Nat → Prop} {n₀ : Nat} {A B : World} (h : Mv n₀ A B) : KeptX X A B := ⟨h.size, fun k o hk ho _ => h.cells k o hk ho⟩
theorem KeptX.cell {X : Nat → Prop} {A B : World} (h : KeptX X A B) {b o : Nat} {v : Value} (hx : ¬ X b) (hv : A.cell? ⟨b, o, none⟩ = some v) : B.cell? ⟨b, o, none⟩ = some v := by
  obtain ⟨u, hu, hc⟩ := cells_of_cell hv
  exact (World.cell?_of_block ((h.cells _ u hu hc hx).trans hu.symm)).trans hv
theorem KeptX.box {X : Nat → Prop} {A B : World} (h : KeptX X A B) {b o : Nat} {v : Value} (hx : ¬ X b) (hv : BoxAt A b o v) : BoxAt B b o v := by
  obtain ⟨u, hu, hc⟩ := cells_of_cell hv.1
  exact ⟨h.cell hx hv.1, (World.frozen?_of_block ((h.cells _ u hu hc hx).trans hu.symm)).trans hv.2⟩
structure RK (n₀ : Nat) (X : Nat → Prop) (A B : World) : Prop where
  kept : KeptX X A B
  oth : KeepsFrom n₀ A B
theorem RK.refl (n₀ : Nat) (X : Nat → Prop) (A : World) : RK n₀ X A A := ⟨⟨Nat.le_refl _, fun _ _ h _ _ => h⟩, KeepsFrom.refl _ _⟩
theorem RK.ext {n₀ : Nat} {X : Nat → Prop} {A B C : World} (h : RK n₀ X A B) (e : Ext B C) : RK n₀ X A C :=
  ⟨h.kept.trans (KeptX.of_mv (n₀ := 0) (Mv.of_ext e)), h.oth.trans (e.others.from _)⟩
theorem RK.turn {n₀ : Nat} {X : Nat → Prop} {A B C : World} (h : RK n₀ X A B) {O : Nat} (t : Turns O B C) (hO : X O ∨ A.heap.size ≤ O) : RK n₀ X A C := by
  refine ⟨⟨by rw [t.size]; exact h.kept.size, fun k o hk ho hx => ?_⟩, ⟨by rw [t.size]; exact h.oth.size, fun k o hk hi ho => ?_⟩⟩
  · have hne : k ≠ O := fun e => by
      subst e
      rcases hO with q | q
      · exact hx q
      · have := (Array.getElem?_eq_some_iff.1 hk).1; omega
    rw [t.heap' k hne]; exact h.kept.cells k o hk ho hx
  · have h2 := h.oth.same k o hk hi ho
    by_cases e : k = O
    · subst e; exact t.oth' o h2 ho
    · rw [t.heap' k e]; exact h2

/-! A range over a function that yields N times, in order. -/
def SeqN (P : Program) (g : Nat) (lb : Array Value) (N : Nat) (encs : Nat → List Value) (Φ : Nat → World → Prop) (X : Nat → Prop) (w : World) : Prop :=
  ∀ (l : Nat) (J Jx : Nat → World → Prop) (W : World), Ext w W → (∀ i A B, J i A → Ext A B → J i B) → (∀ i A B, Jx i A → Ext A B → Jx i B) →
    (∀ i W1 m, i < N → J i W1 → Φ i W1 → YieldAt Fence.wide m P l (encs i).toArray W1 fun e W' => (e = .returned (.bool true) ∧ J (i + 1) W' ∧ KeptX X W1 W') ∨ (e = .returned (.bool false) ∧ Jx i W' ∧ KeptX X W1 W')) →
    J 0 W → ∀ n, CallsIn Fence.wide n P g (#[.func (.yield l) #[] #[]] ++ lb) W fun e W' => (∃ v, e = .returned v) ∧ (J N W' ∨ ∃ i, i < N ∧ Jx i W')
/-- How a round may be left. -/
def RndQ (n₀ : Nat) (X : Nat → Prop) (Inv : Nat → World → Prop) (Ix : Code → Nat → World → Prop) (i : Nat) (W : World) : Exit → Act → World → Prop
  | .normal, _, W' => RK n₀ X W W' ∧ Inv (i + 1) W'
  | .ret, _, W' => RK n₀ X W W' ∧ Ix .ret i W'
  | .exit id, _, W' => RK n₀ X W W' ∧ Ix (.exit id) i W'
  | _, _, _ => False
/-- How the assignments to the loop's variables end. -/
def AsgQ (P : Program) (l k n₀ : Nat) (X : Nat → Prop) (body : Code) (Inv : Nat → World → Prop) (Ix : Code → Nat → World → Prop) (i : Nat) (W : World) : Exit → Act → World → Prop
  | .normal, a, w1 => RK n₀ X W w1 ∧ ∀ w2, Mv n₀ w1 w2 → body.wpIn (FR (some l)) k P (RndQ n₀ X Inv Ix i w2) a w2
  | _, _, _ => False
def zipW : List Nat → List Value → List (Nat × Value) → List (Nat × Value)
  | p :: ps, v :: vs, ws => zipW ps vs ((p, v) :: ws)
  | _, _, ws => ws
theorem zip_setL (L : List Value) : ∀ (ps : List Nat) (vs : List Value) (ws : List (Nat × Value)), (ps.zip vs).foldl (fun t (p, v) => t.setIfInBounds p v) (setAll L ws).toArray = (setAll L (zipW ps vs ws)).toArray
  | p :: ps, v :: vs, ws => by
    have ih := zip_setL L ps vs ((p, v) :: ws)
    rw [zipW, ← ih, List.zip_cons_cons, List.foldl_cons]
    simp [setAll]
  | [], vs, ws => by simp [zipW]
  | p :: ps, [], ws => by simp [zipW]
theorem zip_set (L : List Value) (ps : List Nat) (vs : List Value) (ws : List (Nat × Value)) : (ps.toArray.zip vs.toArray).foldl (fun t (p, v) => t.setIfInBounds p v) (setAll L ws).toArray = (setAll L (zipW ps vs ws)).toArray := by
  rw [← zip_setL, List.zip_toArray]
  exact List.foldl_toArray _ _ _
theorem zip_bd {n : Nat} {L : List Value} : ∀ {ps : List Nat} {vs : List Value} {ws : List (Nat × Value)}, Bd n L ws → ps.all (fun p => Nat.blt p n) = true → Bd n L (zipW ps vs ws)
  | p :: ps, v :: vs, ws, b, h => by
    simp only [List.all_cons, Bool.and_eq_true] at h
    exact zip_bd (ps := ps) (vs := vs) (b.put h.1) h.2
  | [], vs, ws, b, _ => b
  | p :: ps, [], ws, b, _ => b
section
variable {P : Program} {n : Nat} {L : List Value} {ws : List (Nat × Value)} {w : World} {Q : Exit → Act → World → Prop} {r : Option Nat} {m : Nat} {Ds : List Nat}
theorem icw_range {g : Operand} {ps : List Nat} {assign body : Code} {gf : Nat} {lb : Array Value} (hg : evalW L ws g = .func (.func gf) #[] lb) (eg : ∀ args w, (callFunc gf args).run P w = .ok (.enter gf args) w)
    {N : Nat} {encs : Nat → List Value} {Φ : Nat → World → Prop} {X : Nat → Prop} {w0 : World} (hseq : SeqN P gf lb N encs Φ X w0) (hb0 : Ext w0 w) (hps : ∀ i, (encs i).length = ps.length) (hpn : ps.all (fun p => Nat.blt p n) = true)
    (Inv : Nat → World → Prop) (Ix : Code → Nat → World → Prop) (hI : ∀ i A B, Inv i A → Mv w.heap.size A B → Inv i B) (hIx : ∀ c i A B, Ix c i A → Mv w.heap.size A B → Ix c i B) (h0 : Inv 0 w)
    (round : ∀ l k i W, i < N → Inv i W → Φ i W → ICW P (some l) k [] assign (AsgQ P l k w.heap.size X body Inv Ix i W) n L (zipW ps (encs i) ws) W)
    (done : ∀ D W, w.heap.size ≤ D → D < W.heap.size → Inv N W → W.heap[D]? = some (.deferred (some [])) → IQW (D :: Ds) Q .normal n L ws W)
    (stop : ∀ c D i W, w.heap.size ≤ D → D < W.heap.size → i < N → Ix c i W → W.heap[D]? = some (.deferred (some [])) → ICW P none m (D :: Ds) c Q n L ws W) :
    ICW P none m Ds (.rangeFunc g ps.toArray assign body) Q n L ws w := ⟨fun b => by
  have hgv : Act.eval ⟨(setAll L ws).toArray, marks Ds⟩ g = .func (.func gf) #[] lb := by rw [eval_W b.lt]; exact hg
  show (Code.rangeFunc g ps.toArray assign body).wpIn Fence.wide m P Q ⟨(setAll L ws).toArray, marks Ds⟩ w
  refine wpIn_rangeFunc fun fn hfn => ?_
  let R := recOf ⟨(setAll L ws).toArray, marks Ds⟩ ps.toArray assign body fn w.heap.size
  let W1 := (w.alloc (.deferred (some []))).alloc (.loop (R .ready none))
  have sz : W1.heap.size = w.heap.size + 2 := by simp [W1]
  have hL1 : W1.heap[w.heap.size + 1]? = some (.loop (R .ready none)) := by
    have := World.alloc_heap_new (w.alloc (.deferred (some []))) (.loop (R .ready none))
    rwa [World.size_alloc] at this
  have hK1 : W1.heap[w.heap.size]? = some (.deferred (some [])) := (Below.heap_alloc _ _ _ (by simp)).trans (World.alloc_heap_new w _)
  have hE1 : Ext w W1 := ((Ext.refl w).alloc _).alloc _
  refine ⟨w.heap.size + 1, [{ target := .collected w.heap.size, args := #[] }], W1, { target := .fn (.func gf) lb, args := #[.func (.yield (w.heap.size + 1)) #[] #[]] }, W1, gf, #[.func (.yield (w.heap.size + 1)) #[] #[]] ++ lb, W1,
    run_enterLoop_outer _ _ _ _ _, ?_, fun _ _ => trivial, by simp [invoke, go_sem, eg], fun h => by simp [Fence.wide] at h, ?_⟩
  · have hgv' : Act.eval ⟨(setAll L ws).toArray, marks Ds⟩ g = .func (.func gf) #[] lb := hgv
    simp only [resolve, hgv']; simp [go_sem]
  refine (hseq (w.heap.size + 1)
    (fun i W => Inv i W ∧ W.heap[w.heap.size + 1]? = some (.loop (R .ready none)) ∧ W.heap[w.heap.size]? = some (.deferred (some [])))
    (fun i W => ∃ c, Ix c i W ∧ W.heap[w.heap.size + 1]? = some (.loop (R .done (some c))) ∧ W.heap[w.heap.size]? = some (.deferred (some [])))
    W1 (hb0.trans hE1)
    (fun i A B hs e => ⟨hI i A B hs.1 (Mv.of_ext e), (e.block _ (Array.getElem?_eq_some_iff.1 hs.2.1).1).trans hs.2.1, (e.block _ (Array.getElem?_eq_some_iff.1 hs.2.2).1).trans hs.2.2⟩)
    (fun i A B ⟨c, h1, h2, h3⟩ e => ⟨c, hIx c i A B h1 (Mv.of_ext e), (e.block _ (Array.getElem?_eq_some_iff.1 h2).1).trans h2, (e.block _ (Array.getElem?_eq_some_iff.1 h3).1).trans h3⟩)
    ?_ ⟨hI 0 w W1 h0 (Mv.of_ext hE1), hL1, hK1⟩ _).mono ?_
  · rintro i W k hi ⟨hInv, hl, hk⟩ hx
    have hlt := (Array.getElem?_eq_some_iff.1 hl).1
    have hsz : (encs i).toArray.size = ps.toArray.size := by simp [hps i]
    refine ⟨fn, _, assign, body, run_yield (P := P) (args := (encs i).toArray) hl hsz, roundIn_of_wpIn (F := Fence.wide) hfn ?_⟩
    have hround := (round (w.heap.size + 1) k i W hi hInv hx).out (zip_bd b hpn)
    have e0 : (⟨(setAll L (zipW ps (encs i) ws)).toArray, marks []⟩ : Act) = { tmps := (ps.toArray.zip (encs i).toArray).foldl (fun t (p, v) => t.setIfInBounds p v) (setAll L ws).toArray, defers := [] } := by rw [zip_set]; rfl
    rw [e0] at hround
    refine Go.wpIn_mono hround fun e a1 w1 hp => ?_
    cases e with
    | normal =>
      obtain ⟨hk1, hbody⟩ := hp
      have hl1 := hk1.oth.same _ _ (by omega) hl rfl
      have hkk := hk1.oth.same _ _ (Nat.le_refl _) hk rfl
      have hlt1 := (Array.getElem?_eq_some_iff.1 hl1).1
      refine ⟨_, run_beginRound hl1 rfl, ?_⟩
      let W2 := w1.putObj (w.heap.size + 1) (.loop (R .busy none))
      have hm2 : Mv w.heap.size w1 W2 := Mv.putObj _ (by omega) hl1 rfl
      have hl2 : W2.heap[w.heap.size + 1]? = some (.loop (R .busy none)) := World.putObj_heap_same hlt1
      have hk2 : W2.heap[w.heap.size]? = some (.deferred (some [])) := (World.putObj_heap_other (by omega)).trans hkk
      have leave : ∀ (jump : Option Code) (W3 : World), RK w.heap.size X W2 W3 →
          W3.heap[w.heap.size + 1]? = some (.loop (R .busy none)) ∧
          (Instr.endRound (w.heap.size + 1) jump).run P W3 = .ok (.bool jump.isNone) (W3.putObj (w.heap.size + 1) (.loop (R (if jump.isNone then .ready else .done) jump))) ∧
          (W3.putObj (w.heap.size + 1) (.loop (R (if jump.isNone then .ready else .done) jump))).heap[w.heap.size + 1]? = some (.loop (R (if jump.isNone then .ready else .done) jump)) ∧
          (W3.putObj (w.heap.size + 1) (.loop (R (if jump.isNone then .ready else .done) jump))).heap[w.heap.size]? = some (.deferred (some [])) ∧
          Mv w.heap.size W3 (W3.putObj (w.heap.size + 1) (.loop (R (if jump.isNone then .ready else .done) jump))) ∧ KeptX X W (W3.putObj (w.heap.size + 1) (.loop (R (if jump.isNone then .ready else .done) jump))) := fun jump W3 h3 => by
        have hl3 := h3.oth.same _ _ (by omega) hl2 rfl
        have hm3 : Mv w.heap.size W3 (W3.putObj (w.heap.size + 1) (.loop (R (if jump.isNone then .ready else .done) jump))) := Mv.putObj _ (by omega) hl3 rfl
        exact ⟨hl3, run_endRound (P := P) jump hl3, World.putObj_heap_same (Array.getElem?_eq_some_iff.1 hl3).1, (World.putObj_heap_other (by omega)).trans (h3.oth.same _ _ (Nat.le_refl _) hk2 rfl), hm3, ((hk1.kept.trans (KeptX.of_mv hm2)).trans h3.kept).trans (KeptX.of_mv hm3)⟩
      refine Go.wpIn_mono (hbody W2 hm2) fun e a3 W3 hp => ?_
      cases e with
      | normal =>
        obtain ⟨h3, hi3⟩ := hp
        obtain ⟨hl3, hr, q1, q2, q3, q4⟩ := leave none W3 h3
        exact ⟨_, _, hr, .inl ⟨rfl, ⟨hI _ _ _ hi3 q3, q1, q2⟩, q4⟩⟩
      | ret =>
        obtain ⟨h3, hi3⟩ := hp
        obtain ⟨hl3, hr, q1, q2, q3, q4⟩ := leave (some .ret) W3 h3
        exact ⟨_, _, hr, .inr ⟨rfl, ⟨_, hIx _ _ _ _ hi3 q3, q1, q2⟩, q4⟩⟩
      | exit id =>
        obtain ⟨h3, hi3⟩ := hp
        obtain ⟨hl3, hr, q1, q2, q3, q4⟩ := leave (some (.exit id)) W3 h3
        exact ⟨_, _, hr, .inr ⟨rfl, ⟨_, hIx _ _ _ _ hi3 q3, q1, q2⟩, q4⟩⟩
      | goto _ => exact hp.elim
      | panic _ => exact hp.elim
      | outgrown => exact hp.elim
    | exit _ => exact hp.elim
    | ret => exact hp.elim
    | goto _ => exact hp.elim
    | panic _ => exact hp.elim
    | outgrown => exact hp.elim
  · rintro e W2 ⟨⟨v, rfl⟩, (⟨hi, hl, hk⟩ | ⟨i, hiN, c, hi, hl, hk⟩)⟩
    · exact ⟨none, _, run_endLoop (P := P) hl (by simp [R, recOf]), (done w.heap.size _ (Nat.le_refl _) (by have := (Array.getElem?_eq_some_iff.1 hk).1; simpa using this) (hI _ _ _ hi (Mv.putObj _ (by omega) hl rfl)) ((World.putObj_heap_other (by omega)).trans hk)).out b⟩
    · exact ⟨some c, _, run_endLoop (P := P) hl (by simp [R, recOf]), (stop c w.heap.size i _ (Nat.le_refl _) (by have := (Array.getElem?_eq_some_iff.1 hk).1; simpa using this) hiN (hIx _ _ _ _ hi (Mv.putObj _ (by omega) hl rfl)) ((World.putObj_heap_other (by omega)).trans hk)).out b⟩⟩
theorem iqw_asg {l k n₀ i : Nat} {X : Nat → Prop} {body : Code} {Inv : Nat → World → Prop} {Ix : Code → Nat → World → Prop} {W : World} (hk : RK n₀ X W w) (h : ∀ W2, Mv n₀ w W2 → ICW P (some l) k [] body (RndQ n₀ X Inv Ix i W2) n L ws W2) : IQW [] (AsgQ P l k n₀ X body Inv Ix i W) .normal n L ws w :=
  ⟨fun b => ⟨hk, fun w2 hm => (h w2 hm).out b⟩⟩
theorem iqw_next {n₀ i : Nat} {X : Nat → Prop} {Inv : Nat → World → Prop} {Ix : Code → Nat → World → Prop} {W : World} (hk : RK n₀ X W w) (h : Inv (i + 1) w) : IQW Ds (RndQ n₀ X Inv Ix i W) .normal n L ws w := ⟨fun _ => ⟨hk, h⟩⟩
theorem iqw_brk_ret {n₀ i : Nat} {X : Nat → Prop} {Inv : Nat → World → Prop} {Ix : Code → Nat → World → Prop} {W : World} (hk : RK n₀ X W w) (h : Ix .ret i w) : IQW Ds (RndQ n₀ X Inv Ix i W) .ret n L ws w := ⟨fun _ => ⟨hk, h⟩⟩
theorem iqw_brk {n₀ i id : Nat} {X : Nat → Prop} {Inv : Nat → World → Prop} {Ix : Code → Nat → World → Prop} {W : World} (hk : RK n₀ X W w) (h : Ix (.exit id) i w) : IQW Ds (RndQ n₀ X Inv Ix i W) (.exit id) n L ws w := ⟨fun _ => ⟨hk, h⟩⟩
theorem ileave {fn : Func} {R : Ending → World → Prop} {rs : List ResultVar} (n₀ : Nat) (vs : List Value) (hf : fn.results = rs.toArray) (b : Bd n L ws) (hD : ∀ D ∈ Ds, n₀ ≤ D ∧ w.heap[D]? = some (.deferred (some []))) (hn : Ds.Nodup)
    (h : ∀ W, Mv n₀ w W → ResV P (evalW L ws) W rs vs ∧ R (.returned (resOf vs)) W) : LeavesInM Fence.wide m P fn (setAll L ws).toArray R (marks Ds) .returning w := by
  refine leaves_marks n₀ (fun W => Mv n₀ w W) (fun D W hD hW hk => hW.trans (Mv.putObj _ hD hk rfl)) (fun W hW => ?_) Ds w hn hD (Mv.refl _ _)
  obtain ⟨h1, h2⟩ := h W hW
  exact ⟨_, res_run (a := ⟨(setAll L ws).toArray, marks Ds⟩) hf (by rw [eval_W b.lt]; exact h1), h2⟩
theorem iqw_ret {fn : Func} {R : Ending → World → Prop} {rs : List ResultVar} (n₀ : Nat) (vs : List Value) (hf : fn.results = rs.toArray) (hD : ∀ D ∈ Ds, n₀ ≤ D ∧ w.heap[D]? = some (.deferred (some []))) (hn : Ds.Nodup)
    (h : ∀ W, Mv n₀ w W → ResV P (evalW L ws) W rs vs ∧ R (.returned (resOf vs)) W) : IQW Ds (IBody m P fn R) .ret n L ws w := ⟨fun b => ileave n₀ vs hf b hD hn h⟩
theorem iqw_end {fn : Func} {R : Ending → World → Prop} {rs : List ResultVar} (n₀ : Nat) (vs : List Value) (hf : fn.results = rs.toArray) (hD : ∀ D ∈ Ds, n₀ ≤ D ∧ w.heap[D]? = some (.deferred (some []))) (hn : Ds.Nodup)
    (h : ∀ W, Mv n₀ w W → ResV P (evalW L ws) W rs vs ∧ R (.returned (resOf vs)) W) : IQW Ds (IBody m P fn R) .normal n L ws w := ⟨fun b => ileave n₀ vs hf b hD hn h⟩
end
/-! Regions that draw their order, within a round. -/
section
variable {P : Program} {ops : Array Oper} {Q : Exit → Act → World → Prop} {S : World → Prop} {r : Option Nat} {m : Nat}
def AnyJ (P : Program) (r : Option Nat) (m : Nat) (ops : Array Oper) (Q : Exit → Act → World → Prop) (S : World → Prop) : Nat → Array Bool → Act → World → Prop
  | 0, listed, a, w => Region.ready .any ops listed = [] ∧ Q .normal a w
  | fuel + 1, listed, a, w => (Region.ready .any ops listed = [] → Q .normal a w) ∧ ∀ i ∈ Region.ready .any ops listed, wpOpIn (FR r) m P ops Q i (fun a' w' => S w' ∧ AnyJ P r m ops Q S fuel (listed.setIfInBounds i true) a' w') a w
theorem anyJ_sound : ∀ (fuel : Nat) (listed : Array Bool) (a : Act) (w : World), AnyJ P r m ops Q S fuel listed a w → wpAnyIn (FR r) m P .any ops Q fuel listed a w
  | 0, _, _, _, h => h
  | fuel + 1, _, _, _, h => ⟨h.1, fun i hi => wpOpIn_mono (fun a w q => anyJ_sound fuel _ a w q.2) (h.2 i hi)⟩
/-- An operation that yields v wherever S holds, and writes nothing. -/
def PureH (P : Program) (ops : Array Oper) (S : World → Prop) (o : Oper) (v : Value) (a : Act) : Prop :=
  (Region.wanted o (yielded ops a.tmps) = true ∧ ∀ w, S w → (execOp a.eval o).run P w = .ok (.value v) w) ∨ (Region.wanted o (yielded ops a.tmps) = false ∧ v = undef)
theorem PureH.same {o : Oper} {v : Value} {a a' : Act} (h : PureH P ops S o v a) (he : execOp a'.eval o = execOp a.eval o) (hw : Region.wanted o (yielded ops a'.tmps) = Region.wanted o (yielded ops a.tmps)) : PureH P ops S o v a' := by
  unfold PureH at *
  rw [hw, he]; exact h
theorem PureH.op {i : Nat} {o : Oper} {v : Value} {a : Act} (hi : ops[i]? = some o) (h : PureH P ops S o v a) {K : Act → World → Prop} {w : World} (hS : S w) (hk : K (a.put o.dst v) w) : wpOpIn (FR r) m P ops Q i K a w := by
  unfold wpOpIn
  simp only [hi]
  rcases h with ⟨hw, hv⟩ | ⟨hw, rfl⟩
  · rw [if_pos hw]
    refine ⟨fun _ _ => trivial, ?_⟩
    show o.uponIn (FR r) m P a K Q ((o.semAt r a.eval).run P w)
    rw [semAt_of (hv w hS) (by simp), Oper.uponIn_value]; exact hk
  · rw [if_neg (by rw [hw]; simp)]
    exact ⟨fun _ _ => trivial, hk⟩
theorem opJ_put {j : Nat} {oi oj : Oper} {v : Value} (hj : ops[j]? = some oj) (hap : oi.apart ops oj = true) (hsi : ∀ cs b, oi.op ≠ .select cs b) (hsj : ∀ cs b, oj.op ≠ .select cs b) (hnd : ∀ c, oj.op ≠ .defer c)
    (hQ : ∀ c a w, Q (.panic c) (a.put oi.dst v) w → Q (.panic c) a w) {K : Act → World → Prop} {a : Act} {w : World} (hy : PureH P ops S oi v a) (h : wpOpIn (FR r) m P ops Q j K (a.put oi.dst v) w) :
    wpOpIn (FR r) m P ops Q j (fun a' w' => PureH P ops S oi v a' ∧ K (a'.put oi.dst v) w') a w := by
  obtain ⟨h1, h2, h3⟩ := Oper.apart_spec hap
  have keep : ∀ (a : Act) (u : Value), PureH P ops S oi v a → PureH P ops S oi v (a.put oj.dst u) := fun a u hy => hy.same (execOp_put oi hsi a oj.dst u h3) (wanted_put oi a oj.dst u h3)
  unfold wpOpIn at *
  simp only [hj] at *
  rw [wanted_put oj a oi.dst v h1] at h
  split
  · rename_i hw
    simp only [hw, if_true] at h
    refine ⟨fun _ _ => trivial, ?_⟩
    have h9 := h.2
    rw [Oper.semAt_eq _ _ _ hnd, execOp_put oj hsj a oi.dst v h1] at h9
    rw [Oper.semAt_eq _ _ _ hnd]
    generalize (execOp a.eval oj).run P w = res at *
    cases res with
    | ok x w' =>
      cases x <;> simp only [Oper.uponIn] at h9 ⊢
      case value u => exact ⟨keep a u hy, by rw [← Act.put_comm a v u h2]; exact h9⟩
      case skip => exact ⟨keep a _ hy, by rw [← Act.put_comm a v undef h2]; exact h9⟩
      case defer d =>
        refine ⟨keep _ _ (hy.same rfl rfl), ?_⟩
        rw [← Act.put_comm _ v undef h2, ← Act.put_defers]
        exact h9
      case enter f args =>
        refine ⟨h9.1, CallsIn.mono h9.2 fun e w'' he => ?_⟩
        cases e with
        | returned u => exact ⟨keep a u hy, by rw [← Act.put_comm a v u h2]; exact he⟩
        | panicked c => exact hQ _ _ _ he
        | outgrown => exact he
      case row row args => exact ⟨h9.1, RowsIn.mono h9.2 fun u w'' he => ⟨keep a u hy, by rw [← Act.put_comm a v u h2]; exact he⟩⟩
      case round l f tmps assign body =>
        refine ⟨h9.1, RoundIn.mono h9.2 fun e w'' he => ?_⟩
        cases e with
        | returned u => exact ⟨keep a u hy, by rw [← Act.put_comm a v u h2]; exact he⟩
        | panicked c => exact hQ _ _ _ he
        | outgrown => exact he
    | halt x w' =>
      cases x <;> simp only [Oper.uponIn] at h9 ⊢
      case panic u => exact hQ _ _ _ h9
  · rename_i hw
    simp only [hw] at h
    exact ⟨fun _ _ => trivial, keep a _ hy, by rw [← Act.put_comm a v undef h2]; exact h.2⟩
theorem anyJ_first {i : Nat} {oi : Oper} {v : Value} (hi : ops[i]? = some oi) (hsel : ∀ (j : Nat) (o : Oper) cs b, ops[j]? = some o → o.op ≠ .select cs b) (hnd : ∀ (j : Nat) (o : Oper) c, ops[j]? = some o → o.op ≠ .defer c)
    (hQ : ∀ c a w, Q (.panic c) (a.put oi.dst v) w → Q (.panic c) a w) :
    ∀ (fuel : Nat) (listed : Array Bool) (a : Act) (w : World),
      (∀ j oj, ops[j]? = some oj → j ≠ i → listed.getD j true = false → (∀ e ∈ oj.after, Region.binds .any e = true → e.on ≠ i) → oi.apart ops oj = true) →
      i ∈ Region.ready .any ops listed → PureH P ops S oi v a → S w →
      AnyJ P r m ops Q S fuel (listed.setIfInBounds i true) (a.put oi.dst v) w → AnyJ P r m ops Q S (fuel + 1) listed a w := by
  intro fuel
  induction fuel with
  | zero =>
    intro listed a w _ hr hy hS H
    refine ⟨fun h => (by rw [h] at hr; cases hr), fun j hj => ?_⟩
    by_cases hji : j = i
    · subst hji; exact hy.op hi hS ⟨hS, H⟩
    · have := ready_mono hj hji
      rw [H.1] at this
      cases this
  | succ fuel ih =>
    intro listed a w hfree hr hy hS H
    refine ⟨fun h => (by rw [h] at hr; cases hr), fun j hj => ?_⟩
    by_cases hji : j = i
    · subst hji; exact hy.op hi hS ⟨hS, H⟩
    · have h1 := H.2 j (ready_mono hj hji)
      obtain ⟨hjun, oj, hoj, hall⟩ := mem_ready.1 hj
      have hnot : ∀ e ∈ oj.after, Region.binds .any e = true → e.on ≠ i := fun e he hb heq => by
        have h1 := hall e he hb
        have h0 := (mem_ready.1 hr).1
        rw [heq] at h1
        rcases Nat.lt_or_ge i listed.size with h' | h'
        · simp [h'] at h0 h1; rw [h0] at h1; cases h1
        · simp [Array.getElem?_eq_none h'] at h1
      have h2 := opJ_put (S := S) hoj (hfree j oj hoj hji hjun hnot) (fun cs b => hsel i oi cs b hi) (fun cs b => hsel j oj cs b hoj) (fun c => hnd j oj c hoj) hQ hy h1
      have hfree' : ∀ k ok, ops[k]? = some ok → k ≠ i → (listed.setIfInBounds j true).getD k true = false →
          (∀ e ∈ ok.after, Region.binds .any e = true → e.on ≠ i) → oi.apart ops ok = true := fun k ok hk hki hun hno => by
        refine hfree k ok hk hki ?_ hno
        by_cases hjk : j = k
        · subst hjk; exact hjun
        · rw [getD_set_ne true hjk] at hun; exact hun
      refine wpOpIn_mono (fun a' w' h3 => ⟨h3.2.1, ih (listed.setIfInBounds j true) a' w' hfree' (ready_mono hr (Ne.symm hji)) h3.1 h3.2.1 ?_⟩) h2
      rw [Array.setIfInBounds_comm _ _ hji]
      exact h3.2.2
end
def noDefer (ops : Array Oper) : Bool := ops.toList.all fun o => match o.op with | .defer _ => false | _ => true
theorem noDefer_spec {ops : Array Oper} (h : noDefer ops = true) : ∀ (j : Nat) (o : Oper) c, ops[j]? = some o → o.op ≠ .defer c := fun j o c hj he => by
  have hm : o ∈ ops.toList := by rw [← Array.getElem?_toList] at hj; exact List.mem_of_getElem? hj
  have := List.all_eq_true.1 h o hm
  rw [he] at this; cases this
section
variable {P : Program} {ops ops0 : Array Oper} {Q Q' : Exit → Act → World → Prop} {S : World → Prop} {T : List Row} {L : List Value} {Ds : List Nat} {fuel n : Nat} {done : List Nat} {ws : List (Nat × Value)} {w : World} {r : Option Nat} {m : Nat}
structure IReg (P : Program) (ops0 ops : Array Oper) (Q : Exit → Act → World → Prop) (L : List Value) (T : List Row) : Prop extends Reg P ops0 ops Q L T where
  nodef : noDefer ops = true
structure IWD (P : Program) (r : Option Nat) (m : Nat) (Ds : List Nat) (ops : Array Oper) (Q : Exit → Act → World → Prop) (S : World → Prop) (L : List Value) (fuel : Nat) (done : List Nat) (ws : List (Nat × Value)) (w : World) : Prop where
  out : (∀ p ∈ ws, p.1 < L.length) → AnyJ P r m ops Q S fuel (lset ops.size done) ⟨(setAll L ws).toArray, marks Ds⟩ w
theorem icw_draw {id : Nat} {ops0 : Array Oper} (T : List Row) (S : World → Prop) (hm : P.follows .mixedOrders = true) (ht : tableR ops0 = T) (hg : goodT n ops0.size T = true) (hs : (Region.noSelect ops0 && noDefer ops0) = true) (hQ : Calm Q) (_hS : S w.drew)
    (h : ∀ (ops : Array Oper) (Q' : Exit → Act → World → Prop) (X : World), Ext w X → L.length = n → IReg P ops0 ops Q' L T → Shut (∀ ws w, IQW Ds Q .normal n L ws w → IQW Ds Q' .normal n L ws w) → IWD P r m Ds ops Q' S L ops0.size [] ws X) : ICW P r m Ds (.region id ops0 true) Q n L ws w := ⟨fun b => by
  obtain ⟨hs1, hs2⟩ := Bool.and_eq_true_iff.1 hs
  have h9 := (h ops0 Q _ (Ext.drew (Ext.refl _)) b.1 ⟨⟨rfl, ht, by rw [b.1]; exact hg, hs1, hQ⟩, hs2⟩ (fun _ _ h => h)).out b.lt
  exact wpIn_region_any hm (anyJ_sound _ _ _ _ h9)⟩
theorem iwd_end (hL : L.length = n) (hR : IReg P ops0 ops Q' L T) (hK : Shut (∀ ws w, IQW Ds Q .normal n L ws w → IQW Ds Q' .normal n L ws w)) (hd : upT done (numbered T 0) = []) (h : IQW Ds Q .normal n L ws w) : IWD P r m Ds ops Q' S L fuel done ws w := ⟨fun hb => by
  have hr : Region.ready .any ops (lset ops.size done) = [] := by
    rw [List.eq_nil_iff_forall_not_mem]
    intro j hj
    have := ready_up hR.toReg hj
    rw [hd] at this; cases this
  have hq := (hK _ _ h).out ⟨hL, fun p hp => by rw [← hL]; exact hb p hp⟩
  cases fuel with
  | zero => exact ⟨hr, hq⟩
  | succ k => exact ⟨fun _ => hq, by rw [hr]; simp⟩⟩
theorem iwd_take (i : Nat) {d : Nat} {oi : Oper} {rs : List Oper} (v : Value) (hR : IReg P ops0 ops Q' L T) (hi : ops0.toList.drop i = oi :: rs) (hr : readyT T done i = true) (hdst : oi.dst = some d)
    (hw : wantedW T L ws oi.guard = true) (hy : ∀ w, S w → (execOp (evalW L ws) oi).run P w = .ok (.value v) w) (hS : S w)
    (h : IWD P r m Ds ops Q' S L fuel (i :: done) ((d, v) :: ws) w) : IWD P r m Ds ops Q' S L (fuel + 1) done ws w := ⟨fun hb => by
  have ho := op_at hR.toReg hi
  refine anyJ_first (v := v) ho (Region.noSelect_spec hR.nosel) (noDefer_spec hR.nodef) (fun c a w => hR.calm c _ _ a w) fuel _ _ w (apart_of_good hR.tab hR.good ho hr) (readyT_mem hR.tab hR.good ho hr) ?_ hS ?_
  · exact .inl ⟨wanted_W (marks Ds) hR.tab hR.good hb hw, fun w hw => by rw [eval_W hb]; exact hy w hw⟩
  · rw [put_W, hdst]; exact h.out (putW_lt (d := some d) hb (fun k e => by cases e; exact dst_lt hR.toReg ho _ hdst))⟩
theorem iwd_skip (i : Nat) {d : Nat} {oi : Oper} {rs : List Oper} (hR : IReg P ops0 ops Q' L T) (hi : ops0.toList.drop i = oi :: rs) (hr : readyT T done i = true) (hdst : oi.dst = some d)
    (hw : wantedW T L ws oi.guard = false) (hS : S w)
    (h : IWD P r m Ds ops Q' S L fuel (i :: done) ((d, undef) :: ws) w) : IWD P r m Ds ops Q' S L (fuel + 1) done ws w := ⟨fun hb => by
  have ho := op_at hR.toReg hi
  refine anyJ_first (v := undef) ho (Region.noSelect_spec hR.nosel) (noDefer_spec hR.nodef) (fun c a w => hR.calm c _ _ a w) fuel _ _ w (apart_of_good hR.tab hR.good ho hr) (readyT_mem hR.tab hR.good ho hr) ?_ hS ?_
  · exact .inr ⟨wanted_W (marks Ds) hR.tab hR.good hb hw, rfl⟩
  · rw [put_W, hdst]; exact h.out (putW_lt (d := some d) hb (fun k e => by cases e; exact dst_lt hR.toReg ho _ hdst))⟩
theorem iwd_step (i : Nat) {oi : Oper} {rs : List Oper} (hR : IReg P ops0 ops Q' L T) (hi : ops0.toList.drop i = oi :: rs) (hr : upT done (numbered T 0) = [i]) (hr2 : readyT T done i = true)
    (hw : wantedW T L ws oi.guard = true) (h : StepN P (evalW L ws) oi w fun v w' => S w' ∧ IWD P r m Ds ops Q' S L fuel (i :: done) (putW oi.dst v ws) w') : IWD P r m Ds ops Q' S L (fuel + 1) done ws w := ⟨fun hb => by
  have ho := op_at hR.toReg hi
  refine ⟨fun h0 => ?_, fun j hj => ?_⟩
  · have := readyT_mem hR.tab hR.good ho hr2
    rw [h0] at this; cases this
  · have := ready_up hR.toReg hj
    rw [hr] at this
    obtain rfl := List.mem_singleton.1 this
    unfold wpOpIn
    simp only [ho]
    rw [if_pos (wanted_W (marks Ds) hR.tab hR.good hb hw)]
    exact h.wpI (eval_W hb _) fun v w' hn => ⟨hn.1, by rw [put_W]; exact hn.2.out (putW_lt hb (dst_lt hR.toReg ho))⟩⟩
theorem iwd_two (i j : Nat) {oi oj : Oper} {rs s : List Oper} (hR : IReg P ops0 ops Q' L T) (hi : ops0.toList.drop i = oi :: rs) (hj : ops0.toList.drop j = oj :: s) (hr : upT done (numbered T 0) = [i, j]) (hr2 : readyT T done i = true)
    (hwi : wantedW T L ws oi.guard = true) (hwj : wantedW T L ws oj.guard = true)
    (h1 : StepN P (evalW L ws) oi w fun v w' => S w' ∧ IWD P r m Ds ops Q' S L fuel (i :: done) (putW oi.dst v ws) w')
    (h2 : StepN P (evalW L ws) oj w fun v w' => S w' ∧ IWD P r m Ds ops Q' S L fuel (j :: done) (putW oj.dst v ws) w') : IWD P r m Ds ops Q' S L (fuel + 1) done ws w := ⟨fun hb => by
  have ho := op_at hR.toReg hi
  have ho2 := op_at hR.toReg hj
  refine ⟨fun h0 => ?_, fun k hk => ?_⟩
  · have := readyT_mem hR.tab hR.good ho hr2
    rw [h0] at this; cases this
  · have := ready_up hR.toReg hk
    rw [hr] at this
    unfold wpOpIn
    rcases List.mem_cons.1 this with rfl | this
    · simp only [ho]
      rw [if_pos (wanted_W (marks Ds) hR.tab hR.good hb hwi)]
      exact h1.wpI (eval_W hb _) fun v w' hn => ⟨hn.1, by rw [put_W]; exact hn.2.out (putW_lt hb (dst_lt hR.toReg ho))⟩
    · obtain rfl := List.mem_singleton.1 this
      simp only [ho2]
      rw [if_pos (wanted_W (marks Ds) hR.tab hR.good hb hwj)]
      exact h2.wpI (eval_W hb _) fun v w' hn => ⟨hn.1, by rw [put_W]; exact hn.2.out (putW_lt hb (dst_lt hR.toReg ho2))⟩⟩
theorem calm_no (h : ∀ c a w, ¬ Q (.panic c) a w) : Calm Q := fun c _ _ _ w q => (h c _ w q).elim
theorem calm_ibody {m : Nat} {fn : Func} {R : Ending → World → Prop} : Calm (IBody m P fn R) := calm_no fun _ _ _ h => h
theorem calm_rnd {n₀ i : Nat} {X : Nat → Prop} {Inv : Nat → World → Prop} {Ix : Code → Nat → World → Prop} {W : World} : Calm (RndQ n₀ X Inv Ix i W) := calm_no fun _ _ _ h => h
theorem calm_asg {l k n₀ i : Nat} {X : Nat → Prop} {body : Code} {Inv : Nat → World → Prop} {Ix : Code → Nat → World → Prop} {W : World} : Calm (AsgQ P l k n₀ X body Inv Ix i W) := calm_no fun _ _ _ h => h
end
section
variable {P : Program} {n : Nat} {L : List Value} {ws : List (Nat × Value)} {w : World} {m : Nat}
theorem iqw_ret0 {fn : Func} {R : Ending → World → Prop} {rs : List ResultVar} (vs : List Value) (hf : fn.results = rs.toArray) (h : ResV P (evalW L ws) w rs vs) (hR : R (.returned (resOf vs)) w) : IQW [] (IBody m P fn R) .ret n L ws w := ⟨fun b => by
  show LeavesInM Fence.wide m P fn (setAll L ws).toArray R [] .returning w
  exact ⟨_, res_run (a := ⟨(setAll L ws).toArray, []⟩) hf (by rw [eval_W b.lt]; exact h), hR⟩⟩
theorem iqw_end0 {fn : Func} {R : Ending → World → Prop} {rs : List ResultVar} (vs : List Value) (hf : fn.results = rs.toArray) (h : ResV P (evalW L ws) w rs vs) (hR : R (.returned (resOf vs)) w) : IQW [] (IBody m P fn R) .normal n L ws w := ⟨fun b => by
  show LeavesInM Fence.wide m P fn (setAll L ws).toArray R [] .returning w
  exact ⟨_, res_run (a := ⟨(setAll L ws).toArray, []⟩) hf (by rw [eval_W b.lt]; exact h), hR⟩⟩
end
theorem yield_mono {F : Fence} {m : Nat} {P : Program} {l : Nat} {args : Array Value} {W : World} {R R' : Ending → World → Prop} (h : YieldAt F m P l args W R) (hr : ∀ e w', R e w' → R' e w') : YieldAt F m P l args W R' :=
  let ⟨fn, tmps, assign, body, h1, h2⟩ := h; ⟨fn, tmps, assign, body, h1, h2.mono hr⟩
theorem mk_ext {A B : World} {D : Nat} {o : Obj} (h : A.heap[D]? = some o) (e : Ext A B) : B.heap[D]? = some o := (e.block _ (Array.getElem?_eq_some_iff.1 h).1).trans h
theorem mk_turn {A B : World} {D O : Nat} {x : Option (List Deferred)} (h : A.heap[D]? = some (.deferred x)) (t : Turns O A B) : B.heap[D]? = some (.deferred x) := by
  by_cases e : D = O
  · subst e; exact t.oth' _ h rfl
  · rw [t.heap' D e]; exact h
theorem marks1 {n₀ D : Nat} {w : World} (h : n₀ ≤ D) (hm : w.heap[D]? = some (.deferred (some []))) : ∀ D' ∈ [D], n₀ ≤ D' ∧ w.heap[D']? = some (.deferred (some [])) := fun D' hD => by
  rw [List.mem_singleton.1 hD]; exact ⟨h, hm⟩
theorem marksC {n₀ D : Nat} {w : World} {Ds : List Nat} (h : n₀ ≤ D) (hm : w.heap[D]? = some (.deferred (some []))) (hr : ∀ D' ∈ Ds, n₀ ≤ D' ∧ w.heap[D']? = some (.deferred (some []))) : ∀ D' ∈ D :: Ds, n₀ ≤ D' ∧ w.heap[D']? = some (.deferred (some [])) := fun D' hD => by
  rcases List.mem_cons.1 hD with rfl | hD
  · exact ⟨h, hm⟩
  · exact hr D' hD
/-! What a call may write: the blocks of X. -/
structure Wrote (X : Nat → Prop) (A B : World) : Prop where
  os : B.os = A.os
  tape : B.tape = A.tape
  output : B.output = A.output
  size : A.heap.size ≤ B.heap.size
  same : ∀ (k : Nat), k < A.heap.size → ¬ X k → B.heap[k]? = A.heap[k]?
  oth : ∀ (k : Nat) (o : Obj), A.heap[k]? = some o → o.isCells = false → B.heap[k]? = some o
theorem Wrote.refl (X : Nat → Prop) (A : World) : Wrote X A A := ⟨rfl, rfl, rfl, Nat.le_refl _, fun _ _ _ => rfl, fun _ _ h _ => h⟩
theorem Wrote.trans {X : Nat → Prop} {A B C : World} (h : Wrote X A B) (k : Wrote X B C) : Wrote X A C :=
  ⟨k.os.trans h.os, k.tape.trans h.tape, k.output.trans h.output, T h.size k.size, fun i hi hx => (k.same i (Nat.lt_of_lt_of_le hi h.size) hx).trans (h.same i hi hx), fun i o hi ho => k.oth i o (h.oth i o hi ho) ho⟩
theorem Wrote.of_ext {X : Nat → Prop} {A B : World} (e : Ext A B) : Wrote X A B :=
  ⟨e.os, e.tape, e.output, e.size, fun k hk _ => e.block k hk, fun k _o hk _ => (e.block k (Array.getElem?_eq_some_iff.1 hk).1).trans hk⟩
theorem Wrote.of_turns {X : Nat → Prop} {A B : World} {O : Nat} (t : Turns O A B) (hx : X O) : Wrote X A B := by
  have h0 : Ext { A with heap := #[] } A := ⟨rfl, rfl, rfl, Nat.zero_le _, fun k hk => absurd hk (Nat.not_lt_zero k)⟩
  have h1 := t.ext h0 (Nat.zero_le _)
  refine ⟨h1.os, h1.tape, h1.output, Nat.le_of_eq t.size.symm, fun k _ hk => t.heap' k (fun e => hk (e ▸ hx)), fun k o hk ho => ?_⟩
  by_cases e : k = O
  · subst e; exact t.oth' o hk ho
  · rw [t.heap' k e]; exact hk
theorem Wrote.step {X : Nat → Prop} {A B C : World} (h : Wrote X A B) (e : Ext B C) : Wrote X A C := h.trans (Wrote.of_ext e)
/-- A turn of a block that is new, or of X. -/
theorem Wrote.turn {X : Nat → Prop} {A B C : World} (h : Wrote X A B) {O : Nat} (t : Turns O B C) (hO : X O ∨ A.heap.size ≤ O) : Wrote X A C := by
  rcases hO with q | q
  · exact h.trans (Wrote.of_turns t q)
  · have k := Wrote.of_turns (X := fun k => k = O) t rfl
    exact ⟨k.os.trans h.os, k.tape.trans h.tape, k.output.trans h.output, T h.size k.size, fun i hi hx => (k.same i (Nat.lt_of_lt_of_le hi h.size) (fun e => by omega)).trans (h.same i hi hx), fun i o hi ho => k.oth i o (h.oth i o hi ho) ho⟩
theorem Wrote.ext {X : Nat → Prop} {A B U : World} (h : Wrote X A B) (hU : Ext U A) (hx : ∀ k, X k → U.heap.size ≤ k) : Ext U B :=
  ⟨h.os.trans hU.os, h.tape.trans hU.tape, h.output.trans hU.output, T hU.size h.size, fun k hk => (h.same k (Nat.lt_of_lt_of_le hk hU.size) (fun q => absurd hk (Nat.not_lt_of_le (hx k q)))).trans (hU.block k hk)⟩
theorem Wrote.kept {X Y : Nat → Prop} {A B : World} (h : Wrote X A B) (hx : ∀ k, X k → Y k) : KeptX Y A B :=
  ⟨h.size, fun k _o hk _ hy => (h.same k (Array.getElem?_eq_some_iff.1 hk).1 (fun q => hy (hx k q))).trans hk⟩
theorem Wrote.cell {X : Nat → Prop} {A B : World} (h : Wrote X A B) {b o : Nat} {v : Value} (hb : ¬ X b) (hv : A.cell? ⟨b, o, none⟩ = some v) : B.cell? ⟨b, o, none⟩ = some v := (h.kept (fun _ q => q)).cell hb hv
theorem Wrote.box {X : Nat → Prop} {A B : World} (h : Wrote X A B) {b o : Nat} {v : Value} (hb : ¬ X b) (hv : BoxAt A b o v) : BoxAt B b o v := (h.kept (fun _ q => q)).box hb hv
theorem Wrote.va {X : Nat → Prop} {A B : World} (h : Wrote X A B) {b o : Nat} {l : List Int} (hb : ¬ X b) (hv : VA A b o l) : VA B b o l := ⟨fun i hi => h.cell hb (hv.1 i hi), hv.2⟩
theorem Wrote.rows {X : Nat → Prop} {A B : World} (h : Wrote X A B) {b : Nat} {l : List Int} (hb : ¬ X b) (hv : RowsAt A b l) : RowsAt B b l :=
  ⟨hv.1, fun _i hi => h.cell hb (hv.cell hi), fun _i hi => (h.box hb ⟨hv.cell hi, hv.free hi⟩).2⟩
theorem Wrote.mark {X : Nat → Prop} {A B : World} (h : Wrote X A B) {D : Nat} {x : Option (List Deferred)} (hD : A.heap[D]? = some (.deferred x)) : B.heap[D]? = some (.deferred x) := h.oth D _ hD rfl
theorem RK.wrote {n₀ : Nat} {X Y : Nat → Prop} {A B C : World} (h : RK n₀ X A B) (t : Wrote Y B C) (hY : ∀ k, Y k → X k ∨ A.heap.size ≤ k) : RK n₀ X A C := by
  refine ⟨⟨T h.kept.size t.size, fun k o hk ho hx => ?_⟩, ⟨T h.oth.size t.size, fun k o hk hi ho => t.oth k o (h.oth.same k o hk hi ho) ho⟩⟩
  have h2 := h.kept.cells k o hk ho hx
  refine (t.same k (Array.getElem?_eq_some_iff.1 h2).1 (fun q => ?_)).trans h2
  rcases hY k q with q | q
  · exact hx q
  · have := (Array.getElem?_eq_some_iff.1 hk).1; omega
theorem Wrote.wrote {X Y : Nat → Prop} {A B C : World} (h : Wrote X A B) (t : Wrote Y B C) (hY : ∀ k, Y k → X k ∨ A.heap.size ≤ k) : Wrote X A C :=
  ⟨t.os.trans h.os, t.tape.trans h.tape, t.output.trans h.output, T h.size t.size, fun k hk hx => (t.same k (Nat.lt_of_lt_of_le hk h.size) (fun q => (hY k q).elim hx (fun z => absurd hk (Nat.not_lt_of_le z)))).trans (h.same k hk hx), fun k o hk ho => t.oth k o (h.oth k o hk ho) ho⟩

end Go.Proofs.Ytdjjkhefdalokaa
