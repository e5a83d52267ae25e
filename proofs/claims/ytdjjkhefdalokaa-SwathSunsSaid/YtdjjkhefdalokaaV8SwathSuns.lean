/- The statement SwathSuns: for every input that the row lists, the law returns true, and every argument reads as it read before. -/
import Derived.Test.YtdjjkhefdalokaaV7SwathSuns
/- The walk of SwathSuns. -/
namespace Go.Proofs.Ytdjjkhefdalokaa
open Go.RowKit

set_option maxRecDepth 1000000 in
set_option maxHeartbeats 4000000 in
theorem SwathSuns_w (x0 x1 x2 x3 x4 x5 x6 y0 y1 lk : Int) (ix0 : IsI x0) (ix1 : IsI x1) (ix2 : IsI x2) (ix3 : IsI x3) (ix4 : IsI x4) (ix5 : IsI x5) (ix6 : IsI x6) (iy0 : IsI y0) (iy1 : IsI y1) (ilk : IsI lk) (w : World) : Calls Try.prog 4 #[.agg #[.int .i64 x0, .int .i64 x1, .int .i64 x2, .int .i64 x3, .int .i64 x4, .int .i64 x5, .int .i64 x6], .agg #[.int .i64 y0, .int .i64 y1], .int .i64 lk] w fun e w' => e = .returned (.bool true) ∧ Ext w w' := by
  refine calls_cw 115 [(2, .int .i64 (lk : Int)), (1, .agg #[.int .i64 (y0 : Int), .int .i64 (y1 : Int)]), (0, .agg #[.int .i64 (x0 : Int), .int .i64 (x1 : Int), .int .i64 (x2 : Int), .int .i64 (x3 : Int), .int .i64 (x4 : Int), .int .i64 (x5 : Int), .int .i64 (x6 : Int)])] Try.func4 rfl Try.ntmps4 (by kernel_rfl) (by kernel_rfl) (fun L => ?_)
  have hE : Ext w w := Ext.refl w
  refine cw_seq ?_
  refine cw_plain ?_
  refine pl_step rfl (by kernel_rfl) (by kernel_rfl) (by kernel_rfl) (sn_new (us := #[.int .i64 (x0 : Int), .int .i64 (x1 : Int), .int .i64 (x2 : Int), .int .i64 (x3 : Int), .int .i64 (x4 : Int), .int .i64 (x5 : Int), .int .i64 (x6 : Int)]) (t := 22) (by kernel_rfl) ?_)
  intro O1 X2 hO hOs hb hbx
  have hzO1 := hO; have hyO1 := hOs; clear hO hOs
  have bO1_0 : BoxAt X2 O1 0 (.int .i64 (x0 : Int)) := hbx 0 _ rfl
  have bO1_1 : BoxAt X2 O1 1 (.int .i64 (x1 : Int)) := hbx 1 _ rfl
  have bO1_2 : BoxAt X2 O1 2 (.int .i64 (x2 : Int)) := hbx 2 _ rfl
  have bO1_3 : BoxAt X2 O1 3 (.int .i64 (x3 : Int)) := hbx 3 _ rfl
  have bO1_4 : BoxAt X2 O1 4 (.int .i64 (x4 : Int)) := hbx 4 _ rfl
  have bO1_5 : BoxAt X2 O1 5 (.int .i64 (x5 : Int)) := hbx 5 _ rfl
  have bO1_6 : BoxAt X2 O1 6 (.int .i64 (x6 : Int)) := hbx 6 _ rfl
  clear hbx
  replace hE := hE.trans hb
  have hs3 := hb.size
  clear hb
  have lt4 := bO1_0.lt
  refine pl_step rfl (by kernel_rfl) (by kernel_rfl) (by kernel_rfl) (sn_new (us := #[.int .i64 (y0 : Int), .int .i64 (y1 : Int)]) (t := 35) (by kernel_rfl) ?_)
  intro O5 X6 hO hOs hb hbx
  have hzO5 := hO; have hyO5 := hOs; clear hO hOs
  have bO5_0 : BoxAt X6 O5 0 (.int .i64 (y0 : Int)) := hbx 0 _ rfl
  have bO5_1 : BoxAt X6 O5 1 (.int .i64 (y1 : Int)) := hbx 1 _ rfl
  clear hbx
  replace hE := hE.trans hb
  replace bO1_0 := BoxAt.ext hb bO1_0
  replace bO1_1 := BoxAt.ext hb bO1_1
  replace bO1_2 := BoxAt.ext hb bO1_2
  replace bO1_3 := BoxAt.ext hb bO1_3
  replace bO1_4 := BoxAt.ext hb bO1_4
  replace bO1_5 := BoxAt.ext hb bO1_5
  replace bO1_6 := BoxAt.ext hb bO1_6
  have hs7 := hb.size
  clear hb
  have lt8 := bO5_0.lt
  refine pl_take (.bool false) rfl (by kernel_rfl) (by kernel_rfl) (by kernel_rfl) (by kernel_rfl) ?_
  refine pl_nil ?_
  refine qw_then ?_
  refine cw_seq ?_
  have hX9 : Ext X6 X6 := Ext.refl _
  refine cw_plain ?_
  refine pl_step rfl (by kernel_rfl) (by kernel_rfl) (by kernel_rfl) (sn_call (f := 9) (args := #[]) (by kernel_rfl) ((saneS_c _).mono ?_))
  rintro e w10 ⟨rfl, hb⟩
  replace hE := hE.trans hb
  replace hX9 := hX9.trans hb
  have hs11 := hb.size
  clear hb
  refine ⟨_, rfl, ?_⟩
  refine pl_take (.bool true) rfl (by kernel_rfl) (by kernel_rfl) (by kernel_rfl) (by kernel_rfl) ?_
  refine pl_nil ?_
  refine qw_then ?_
  refine cw_seq ?_
  refine cw_seq ?_
  refine cw_plain ?_
  refine pl_take (.bool true) rfl (by kernel_rfl) (by kernel_rfl) (by kernel_rfl) (by kernel_rfl) ?_
  refine pl_take (.bool false) rfl (by kernel_rfl) (by kernel_rfl) (by kernel_rfl) (by kernel_rfl) ?_
  refine pl_nil ?_
  refine qw_then ?_
  refine cw_f (by kernel_rfl) ?_
  refine cw_skip ?_
  refine qw_then ?_
  refine cw_seq ?_
  refine cw_plain ?_
  refine pl_take (.agg #[.int .i64 (x0 : Int), .int .i64 (x1 : Int), .int .i64 (x2 : Int), .int .i64 (x3 : Int), .int .i64 (x4 : Int), .int .i64 (x5 : Int), .int .i64 (x6 : Int)]) rfl (by kernel_rfl) (by kernel_rfl) (by kernel_rfl) (ex_load rfl (by kernel_rfl) (ld22 ((BoxAt.ext hX9 bO1_0).1) ((BoxAt.ext hX9 bO1_1).1) ((BoxAt.ext hX9 bO1_2).1) ((BoxAt.ext hX9 bO1_3).1) ((BoxAt.ext hX9 bO1_4).1) ((BoxAt.ext hX9 bO1_5).1) ((BoxAt.ext hX9 bO1_6).1))) ?_
  refine pl_step rfl (by kernel_rfl) (by kernel_rfl) (by kernel_rfl) (sn_call (f := 11) (args := #[.agg #[.int .i64 (x0 : Int), .int .i64 (x1 : Int), .int .i64 (x2 : Int), .int .i64 (x3 : Int), .int .i64 (x4 : Int), .int .i64 (x5 : Int), .int .i64 (x6 : Int)]]) (by kernel_rfl) ((Made7_c _ _ _ _ _ _ _ _ ix0 ix1 ix2 ix3 ix4 ix5 ix6).mono ?_))
  rintro e w12 ⟨o, rfl, hok, hsl, hb⟩
  replace hE := hE.trans hb
  replace hX9 := hX9.trans hb
  have hs13 := hb.size
  clear hb
  have hq0 := Orb.ok_t.1 hok
  refine ⟨_, rfl, ?_⟩
  refine pl_step rfl (by kernel_rfl) (by kernel_rfl) (by kernel_rfl) (sn_new (us := #[.int .i64 0, .int .i64 0, .int .i64 0, .int .i64 0, .int .i64 0, .int .i64 0, .int .i64 0]) (t := 24) (by kernel_rfl) ?_)
  intro O14 X15 hO hOs hb hbx
  have hzO14 := hO; have hyO14 := hOs; clear hO hOs
  have bO14_0 : BoxAt X15 O14 0 (.int .i64 0) := hbx 0 _ rfl
  have bO14_1 : BoxAt X15 O14 1 (.int .i64 0) := hbx 1 _ rfl
  have bO14_2 : BoxAt X15 O14 2 (.int .i64 0) := hbx 2 _ rfl
  have bO14_3 : BoxAt X15 O14 3 (.int .i64 0) := hbx 3 _ rfl
  have bO14_4 : BoxAt X15 O14 4 (.int .i64 0) := hbx 4 _ rfl
  have bO14_5 : BoxAt X15 O14 5 (.int .i64 0) := hbx 5 _ rfl
  have bO14_6 : BoxAt X15 O14 6 (.int .i64 0) := hbx 6 _ rfl
  clear hbx
  replace hE := hE.trans hb
  replace hX9 := hX9.trans hb
  have hs16 := hb.size
  clear hb
  have lt17 := bO14_0.lt
  refine pl_put rfl (by kernel_rfl) (by kernel_rfl) (sn_setK7 (O := O14) (j := 0) (v0 := .int .i64 (o.p : Int)) (v1 := .int .i64 (o.f : Int)) (v2 := .int .i64 (o.lo : Int)) (v3 := .int .i64 (o.hi : Int)) (v4 := .int .i64 (o.nd : Int)) (v5 := .int .i64 (o.tn : Int)) (v6 := .int .i64 (o.sl : Int)) (ex_store (p := .pointer (some ⟨O14, 0, none⟩)) (v := .agg #[.int .i64 (o.p : Int), .int .i64 (o.f : Int), .int .i64 (o.lo : Int), .int .i64 (o.hi : Int), .int .i64 (o.nd : Int), .int .i64 (o.tn : Int), .int .i64 (o.sl : Int)]) rfl (by kernel_rfl) (by kernel_rfl) (st24 bO14_0.1 bO14_0.2 bO14_1.1 bO14_1.2 bO14_2.1 bO14_2.2 bO14_3.1 bO14_3.2 bO14_4.1 bO14_4.2 bO14_5.1 bO14_5.2 bO14_6.1 bO14_6.2)) bO14_0 bO14_1 bO14_2 bO14_3 bO14_4 bO14_5 bO14_6 ?_)
  intro X18 ho hv0 hv1 hv2 hv3 hv4 hv5 hv6 hk
  replace hE := ho.ext hE (Nat.le_trans (Nat.le_trans hs3 (Nat.le_trans hs7 (Nat.le_trans hs11 hs13))) (Nat.le_of_eq hzO14))
  replace hX9 := ho.ext hX9 (Nat.le_trans (Nat.le_trans hs11 hs13) (Nat.le_of_eq hzO14))
  have hs19 : X15.heap.size ≤ X18.heap.size := Nat.le_of_eq ho.size.symm
  clear ho hk bO14_0 bO14_1 bO14_2 bO14_3 bO14_4 bO14_5 bO14_6
  have bO14_0 := hv0; clear hv0
  have bO14_1 := hv1; clear hv1
  have bO14_2 := hv2; clear hv2
  have bO14_3 := hv3; clear hv3
  have bO14_4 := hv4; clear hv4
  have bO14_5 := hv5; clear hv5
  have bO14_6 := hv6; clear hv6
  refine pl_nil ?_
  refine qw_then ?_
  refine cw_seq ?_
  have hX20 : Ext X18 X18 := Ext.refl _
  refine cw_plain ?_
  refine pl_take (.agg #[.int .i64 (y0 : Int), .int .i64 (y1 : Int)]) rfl (by kernel_rfl) (by kernel_rfl) (by kernel_rfl) (ex_load rfl (by kernel_rfl) (ld35 ((BoxAt.ext (hX9.trans hX20) bO5_0).1) ((BoxAt.ext (hX9.trans hX20) bO5_1).1))) ?_
  refine pl_step rfl (by kernel_rfl) (by kernel_rfl) (by kernel_rfl) (sn_call (f := 12) (args := #[.agg #[.int .i64 (y0 : Int), .int .i64 (y1 : Int)]]) (by kernel_rfl) ((Shot_c _ _ _ iy0 iy1).mono ?_))
  rintro e w21 ⟨s, rfl, hsp30, hsp1, hb⟩
  replace hE := hE.trans hb
  replace hX20 := hX20.trans hb
  have hs22 := hb.size
  clear hb
  have q2 := Swath.spB_t.1 hsp30
  refine ⟨_, rfl, ?_⟩
  refine pl_step rfl (by kernel_rfl) (by kernel_rfl) (by kernel_rfl) (sn_new (us := #[.int .i64 0, .int .i64 0]) (t := 26) (by kernel_rfl) ?_)
  intro O23 X24 hO hOs hb hbx
  have hzO23 := hO; have hyO23 := hOs; clear hO hOs
  have bO23_0 : BoxAt X24 O23 0 (.int .i64 0) := hbx 0 _ rfl
  have bO23_1 : BoxAt X24 O23 1 (.int .i64 0) := hbx 1 _ rfl
  clear hbx
  replace hE := hE.trans hb
  replace hX20 := hX20.trans hb
  have hs25 := hb.size
  clear hb
  have lt26 := bO23_0.lt
  refine pl_put rfl (by kernel_rfl) (by kernel_rfl) (sn_set2 (O := O23) (j := 0) (v := .int .i64 (s.1 : Int)) (v' := .int .i64 (s.2 : Int)) (ex_store (p := .pointer (some ⟨O23, 0, none⟩)) (v := .agg #[.int .i64 (s.1 : Int), .int .i64 (s.2 : Int)]) rfl (by kernel_rfl) (by kernel_rfl) (st26 bO23_0.1 bO23_0.2 bO23_1.1 bO23_1.2)) bO23_0 bO23_1 ?_)
  intro X27 ho hv0 hv1 hk
  replace hE := ho.ext hE (Nat.le_trans (Nat.le_trans hs3 (Nat.le_trans hs7 (Nat.le_trans hs11 (Nat.le_trans hs13 (Nat.le_trans hs16 (Nat.le_trans hs19 hs22)))))) (Nat.le_of_eq hzO23))
  replace hX20 := ho.ext hX20 (Nat.le_trans hs22 (Nat.le_of_eq hzO23))
  have hs28 : X24.heap.size ≤ X27.heap.size := Nat.le_of_eq ho.size.symm
  clear ho hk bO23_0 bO23_1
  have bO23_0 := hv0; clear hv0
  have bO23_1 := hv1; clear hv1
  refine pl_nil ?_
  refine qw_then ?_
  refine cw_clean [2, 7, 8, 9] (ws' := [(2, .int .i64 (lk : Int)), (7, .bool true), (8, .pointer (some ⟨O14, 0, none⟩)), (9, .pointer (some ⟨O23, 0, none⟩))]) (by kernel_rfl) (fun L => ?_)
  refine cw_seq ?_
  refine cw_plain ?_
  refine pl_take (.int .i64 (lk : Int)) rfl (by kernel_rfl) (by kernel_rfl) (by kernel_rfl) (by kernel_rfl) ?_
  refine pl_step rfl (by kernel_rfl) (by kernel_rfl) (by kernel_rfl) (sn_call (f := 13) (args := #[.int .i64 (lk : Int), .int .i64 9]) (by kernel_rfl) ((pickL_n _ (9) _ ilk (by omega) (by omega)).mono ?_))
  rintro e w' ⟨pk30, rfl, pk30l, -, rfl⟩
  refine ⟨_, rfl, ?_⟩
  refine pl_take (.int .i64 ((((pk30 : Nat) : Int)) - 4 : Int)) rfl (by kernel_rfl) (by kernel_rfl) (by kernel_rfl) (ev_wrap (by kernel_rfl) (by omega) (by omega)) ?_
  refine pl_take (.int .i64 ((((pk30 : Nat) : Int)) - 4 : Int)) rfl (by kernel_rfl) (by kernel_rfl) (by kernel_rfl) (by kernel_rfl) ?_
  refine pl_nil ?_
  refine qw_then ?_
  refine cw_seq ?_
  refine cw_plain ?_
  refine pl_take (.agg #[.int .i64 (o.p : Int), .int .i64 (o.f : Int), .int .i64 (o.lo : Int), .int .i64 (o.hi : Int), .int .i64 (o.nd : Int), .int .i64 (o.tn : Int), .int .i64 (o.sl : Int)]) rfl (by kernel_rfl) (by kernel_rfl) (by kernel_rfl) (ex_load rfl (by kernel_rfl) (ld24 ((BoxAt.ext hX20 bO14_0).1) ((BoxAt.ext hX20 bO14_1).1) ((BoxAt.ext hX20 bO14_2).1) ((BoxAt.ext hX20 bO14_3).1) ((BoxAt.ext hX20 bO14_4).1) ((BoxAt.ext hX20 bO14_5).1) ((BoxAt.ext hX20 bO14_6).1))) ?_
  refine pl_take (.agg #[.int .i64 (s.1 : Int), .int .i64 (s.2 : Int)]) rfl (by kernel_rfl) (by kernel_rfl) (by kernel_rfl) (ex_load rfl (by kernel_rfl) (ld26 (bO23_0.1) (bO23_1.1))) ?_
  refine pl_take (.int .i64 ((((pk30 : Nat) : Int)) - 4 : Int)) rfl (by kernel_rfl) (by kernel_rfl) (by kernel_rfl) (by kernel_rfl) ?_
  refine pl_step rfl (by kernel_rfl) (by kernel_rfl) (by kernel_rfl) (sn_call (f := 19) (args := #[.agg #[.int .i64 (o.p : Int), .int .i64 (o.f : Int), .int .i64 (o.lo : Int), .int .i64 (o.hi : Int), .int .i64 (o.nd : Int), .int .i64 (o.tn : Int), .int .i64 (o.sl : Int)], .agg #[.int .i64 (s.1 : Int), .int .i64 (s.2 : Int)], .int .i64 ((((pk30 : Nat) : Int)) - 4 : Int)]) (by kernel_rfl) ((Suns_y (o := o) (s := s) (lk := (((pk30 : Nat) : Int)) - 4) _ (Swath.shB_t.2 ⟨hok, ⟨by first | omega | (simp only []; omega), by first | omega | (simp only []; omega), by first | omega | (simp only []; omega), by first | omega | (simp only []; omega)⟩, by omega, by omega⟩)).mono ?_))
  rintro e w31 ⟨rfl, hb⟩
  replace hE := hE.trans hb
  replace hX20 := hX20.trans hb
  replace bO23_0 := BoxAt.ext hb bO23_0
  replace bO23_1 := BoxAt.ext hb bO23_1
  have hs32 := hb.size
  clear hb
  refine ⟨_, rfl, ?_⟩
  refine pl_take (.tuple #[.int .i64 ((Swath.suns o s ((((pk30 : Nat) : Int)) - 4)).1 : Int), .int .i64 ((Swath.suns o s ((((pk30 : Nat) : Int)) - 4)).2 : Int), .int .i64 0]) rfl (by kernel_rfl) (by kernel_rfl) (by kernel_rfl) (by kernel_rfl) ?_
  refine pl_take (.int .i64 ((Swath.suns o s ((((pk30 : Nat) : Int)) - 4)).1 : Int)) rfl (by kernel_rfl) (by kernel_rfl) (by kernel_rfl) (by kernel_rfl) ?_
  refine pl_take (.int .i64 ((Swath.suns o s ((((pk30 : Nat) : Int)) - 4)).2 : Int)) rfl (by kernel_rfl) (by kernel_rfl) (by kernel_rfl) (by kernel_rfl) ?_
  refine pl_take (.int .i64 0) rfl (by kernel_rfl) (by kernel_rfl) (by kernel_rfl) (by kernel_rfl) ?_
  refine pl_take (.int .i64 ((Swath.suns o s ((((pk30 : Nat) : Int)) - 4)).1 : Int)) rfl (by kernel_rfl) (by kernel_rfl) (by kernel_rfl) (by kernel_rfl) ?_
  refine pl_take (.int .i64 ((Swath.suns o s ((((pk30 : Nat) : Int)) - 4)).2 : Int)) rfl (by kernel_rfl) (by kernel_rfl) (by kernel_rfl) (by kernel_rfl) ?_
  refine pl_take (.int .i64 0) rfl (by kernel_rfl) (by kernel_rfl) (by kernel_rfl) (by kernel_rfl) ?_
  refine pl_nil ?_
  refine qw_then ?_
  refine cw_clean [7, 8, 9, 10, 11, 12, 13] (ws' := [(7, .bool true), (8, .pointer (some ⟨O14, 0, none⟩)), (9, .pointer (some ⟨O23, 0, none⟩)), (10, .int .i64 ((((pk30 : Nat) : Int)) - 4 : Int)), (11, .int .i64 ((Swath.suns o s ((((pk30 : Nat) : Int)) - 4)).1 : Int)), (12, .int .i64 ((Swath.suns o s ((((pk30 : Nat) : Int)) - 4)).2 : Int)), (13, .int .i64 0)]) (by kernel_rfl) (fun L => ?_)
  refine cw_seq ?_
  refine cw_seq ?_
  refine cw_plain ?_
  refine pl_take (.int .i64 0) rfl (by kernel_rfl) (by kernel_rfl) (by kernel_rfl) (by kernel_rfl) ?_
  refine pl_take (.bool false) rfl (by kernel_rfl) (by kernel_rfl) (by kernel_rfl) (by kernel_rfl) ?_
  refine pl_nil ?_
  refine qw_then ?_
  refine cw_f (by kernel_rfl) ?_
  refine cw_skip ?_
  refine qw_then ?_
  refine cw_seq ?_
  refine cw_plain ?_
  refine pl_take (.bool false) rfl (by kernel_rfl) (by kernel_rfl) (by kernel_rfl) (by kernel_rfl) ?_
  refine pl_nil ?_
  refine qw_then ?_
  refine cw_seq ?_
  refine cw_plain ?_
  refine pl_take (.bool false) rfl (by kernel_rfl) (by kernel_rfl) (by kernel_rfl) (by kernel_rfl) ?_
  refine pl_nil ?_
  refine qw_then ?_
  refine cw_seq ?_
  refine cw_seq ?_
  refine cw_plain ?_
  refine pl_take (.pointer (some ⟨O14, 6, none⟩)) rfl (by kernel_rfl) (by kernel_rfl) (by kernel_rfl) (by kernel_rfl) ?_
  refine pl_take (.int .i64 (o.sl : Int)) rfl (by kernel_rfl) (by kernel_rfl) (by kernel_rfl) (ex_load rfl (by kernel_rfl) (ld3 ((BoxAt.ext hX20 bO14_6).1))) ?_
  refine pl_take (.int .i64 (-o.sl : Int)) rfl (by kernel_rfl) (by kernel_rfl) (by kernel_rfl) (ev_int (ev_wrap (a := 0 - o.sl) (by kernel_rfl) (by omega) (by omega)) (by omega)) ?_
  refine pl_take (.int .i64 (-o.sl + ((0 : Nat) : Int) : Int)) rfl (by kernel_rfl) (by kernel_rfl) (by kernel_rfl) (ev_int (show _ = Result.ok (Next.value (Value.int .i64 (-o.sl))) _ from by kernel_rfl) (by omega)) ?_
  refine pl_nil ?_
  refine qw_then ?_
  refine cw_clean [7, 8, 9, 10, 11, 12, 14, 15, 16] (ws' := [(7, .bool true), (8, .pointer (some ⟨O14, 0, none⟩)), (9, .pointer (some ⟨O23, 0, none⟩)), (10, .int .i64 ((((pk30 : Nat) : Int)) - 4 : Int)), (11, .int .i64 ((Swath.suns o s ((((pk30 : Nat) : Int)) - 4)).1 : Int)), (12, .int .i64 ((Swath.suns o s ((((pk30 : Nat) : Int)) - 4)).2 : Int)), (14, .bool false), (15, .bool false), (16, .int .i64 (-o.sl + ((0 : Nat) : Int) : Int))]) (by kernel_rfl) (fun L => ?_)
  refine cw_block ?_
  have hN : Swath.lates o = (2 * o.sl + 1).toNat := rfl
  have hM : Swath.mins s = (s.2 - s.1).toNat := rfl
  have hh9 := fun d i => Swath.hgt_bd hok (s := s) q2.1 ((((pk30 : Nat) : Int)) - 4) d i
  have hX33 : Ext w31 w31 := Ext.refl _
  refine cw_loop [7, 8, 9, 10, 11, 12, 14, 15, 16] (fun ws' wr m => ∃ j : Nat, ∃ p : Bool, ∃ q : Bool, ws' = [(7, .bool true), (8, .pointer (some ⟨O14, 0, none⟩)), (9, .pointer (some ⟨O23, 0, none⟩)), (10, .int .i64 ((((pk30 : Nat) : Int)) - 4 : Int)), (11, .int .i64 ((Swath.suns o s ((((pk30 : Nat) : Int)) - 4)).1 : Int)), (12, .int .i64 ((Swath.suns o s ((((pk30 : Nat) : Int)) - 4)).2 : Int)), (14, .bool p), (15, .bool q), (16, .int .i64 (-o.sl + ((j : Nat) : Int) : Int))] ∧ m = Swath.lates o - j ∧ w31.heap.size ≤ wr.heap.size ∧ Ext w wr ∧ Ext w31 wr ∧ p = Swath.anyN (fun j => Swath.anyN (Swath.lowQ o s ((((pk30 : Nat) : Int)) - 4) j) (Swath.mins s)) j ∧ q = Swath.anyN (fun j => Swath.anyN (Swath.topQ o s ((((pk30 : Nat) : Int)) - 4) j) (Swath.mins s)) j ∧ j ≤ Swath.lates o) (ws0 := [(7, .bool true), (8, .pointer (some ⟨O14, 0, none⟩)), (9, .pointer (some ⟨O23, 0, none⟩)), (10, .int .i64 ((((pk30 : Nat) : Int)) - 4 : Int)), (11, .int .i64 ((Swath.suns o s ((((pk30 : Nat) : Int)) - 4)).1 : Int)), (12, .int .i64 ((Swath.suns o s ((((pk30 : Nat) : Int)) - 4)).2 : Int)), (14, .bool false), (15, .bool false), (16, .int .i64 (-o.sl + ((0 : Nat) : Int) : Int))]) (by kernel_rfl) _ ⟨0, false, false, rfl, rfl, Nat.le_refl _, hE, hX33, rfl, rfl, Nat.zero_le _⟩ ?_
  clear hE hX33
  rintro m36 L ws w35 ⟨j, p, q, rfl, rfl, hs34, hE, hX33, hp, hq, hj⟩
  by_cases hlt : j < Swath.lates o
  ·
    refine cw_seq ?_
    refine cw_seq ?_
    refine cw_plain ?_
    refine pl_take (.int .i64 (-o.sl + ((j : Nat) : Int) : Int)) rfl (by kernel_rfl) (by kernel_rfl) (by kernel_rfl) (by kernel_rfl) ?_
    refine pl_take (.pointer (some ⟨O14, 6, none⟩)) rfl (by kernel_rfl) (by kernel_rfl) (by kernel_rfl) (by kernel_rfl) ?_
    refine pl_take (.int .i64 (o.sl : Int)) rfl (by kernel_rfl) (by kernel_rfl) (by kernel_rfl) (ex_load rfl (by kernel_rfl) (ld3 ((BoxAt.ext (hX20.trans hX33) bO14_6).1))) ?_
    refine pl_take (.bool true) rfl (by kernel_rfl) (by kernel_rfl) (by kernel_rfl) (ev_dec (show _ = Result.ok (Next.value (Value.bool (decide ((-o.sl + ((j : Nat) : Int) : Int) ≤ (o.sl : Int))))) _ from by kernel_rfl) (by omega)) ?_
    refine pl_nil ?_
    refine qw_then ?_
    refine cw_t (by kernel_rfl) ?_
    refine cw_skip ?_
    refine qw_then ?_
    refine cw_seq ?_
    refine cw_block ?_
    refine cw_seq ?_
    have hlt9 := hlt; clear hlt
    refine cw_plain ?_
    refine pl_take (.pointer (some ⟨O23, 0, none⟩)) rfl (by kernel_rfl) (by kernel_rfl) (by kernel_rfl) (by kernel_rfl) ?_
    refine pl_take (.int .i64 (s.1 : Int)) rfl (by kernel_rfl) (by kernel_rfl) (by kernel_rfl) (ex_load rfl (by kernel_rfl) (ld3 ((BoxAt.ext hX33 bO23_0).1))) ?_
    refine pl_take (.int .i64 (s.1 + ((0 : Nat) : Int) : Int)) rfl (by kernel_rfl) (by kernel_rfl) (by kernel_rfl) (ev_int (show _ = Result.ok (Next.value (Value.int .i64 s.1)) _ from by kernel_rfl) (by omega)) ?_
    refine pl_nil ?_
    refine qw_then ?_
    refine cw_clean [7, 8, 9, 10, 11, 12, 14, 15, 16, 17] (ws' := [(7, .bool true), (8, .pointer (some ⟨O14, 0, none⟩)), (9, .pointer (some ⟨O23, 0, none⟩)), (10, .int .i64 ((((pk30 : Nat) : Int)) - 4 : Int)), (11, .int .i64 ((Swath.suns o s ((((pk30 : Nat) : Int)) - 4)).1 : Int)), (12, .int .i64 ((Swath.suns o s ((((pk30 : Nat) : Int)) - 4)).2 : Int)), (14, .bool p), (15, .bool q), (16, .int .i64 (-o.sl + ((j : Nat) : Int) : Int)), (17, .int .i64 (s.1 + ((0 : Nat) : Int) : Int))]) (by kernel_rfl) (fun L => ?_)
    refine cw_block ?_
    have hX37 : Ext w35 w35 := Ext.refl _
    refine cw_loop [7, 8, 9, 10, 11, 12, 14, 15, 16, 17] (fun ws' wr m => ∃ i : Nat, ∃ p1 : Bool, ∃ q1 : Bool, ws' = [(7, .bool true), (8, .pointer (some ⟨O14, 0, none⟩)), (9, .pointer (some ⟨O23, 0, none⟩)), (10, .int .i64 ((((pk30 : Nat) : Int)) - 4 : Int)), (11, .int .i64 ((Swath.suns o s ((((pk30 : Nat) : Int)) - 4)).1 : Int)), (12, .int .i64 ((Swath.suns o s ((((pk30 : Nat) : Int)) - 4)).2 : Int)), (14, .bool p1), (15, .bool q1), (16, .int .i64 (-o.sl + ((j : Nat) : Int) : Int)), (17, .int .i64 (s.1 + ((i : Nat) : Int) : Int))] ∧ m = Swath.mins s - i ∧ w35.heap.size ≤ wr.heap.size ∧ Ext w wr ∧ Ext w35 wr ∧ p1 = (Swath.anyN (fun j => Swath.anyN (Swath.lowQ o s ((((pk30 : Nat) : Int)) - 4) j) (Swath.mins s)) j || Swath.anyN (Swath.lowQ o s ((((pk30 : Nat) : Int)) - 4) j) i) ∧ q1 = (Swath.anyN (fun j => Swath.anyN (Swath.topQ o s ((((pk30 : Nat) : Int)) - 4) j) (Swath.mins s)) j || Swath.anyN (Swath.topQ o s ((((pk30 : Nat) : Int)) - 4) j) i) ∧ i ≤ Swath.mins s) (ws0 := [(7, .bool true), (8, .pointer (some ⟨O14, 0, none⟩)), (9, .pointer (some ⟨O23, 0, none⟩)), (10, .int .i64 ((((pk30 : Nat) : Int)) - 4 : Int)), (11, .int .i64 ((Swath.suns o s ((((pk30 : Nat) : Int)) - 4)).1 : Int)), (12, .int .i64 ((Swath.suns o s ((((pk30 : Nat) : Int)) - 4)).2 : Int)), (14, .bool p), (15, .bool q), (16, .int .i64 (-o.sl + ((j : Nat) : Int) : Int)), (17, .int .i64 (s.1 + ((0 : Nat) : Int) : Int))]) (by kernel_rfl) _ ⟨0, p, q, rfl, rfl, Nat.le_refl _, hE, hX37, (by rw [hp]; exact (Bool.or_false _).symm), (by rw [hq]; exact (Bool.or_false _).symm), Nat.zero_le _⟩ ?_
    clear hE hX37
    rintro m40 L ws w39 ⟨i, p1, q1, rfl, rfl, hs38, hE, hX37, hp1, hq1, hi⟩
    by_cases hlt : i < Swath.mins s
    ·
      have hmin : Sun.minB (s.1 + ((i : Nat) : Int)) = true := Sun.minB_t.2 ⟨by omega, by omega⟩
      have hsx := Swath.sx_lt o ((((pk30 : Nat) : Int)) - 4) (s.1 + ((i : Nat) : Int) - (-o.sl + ((j : Nat) : Int)))
      have hcy := Orb.cy_lt hok (s.1 + ((i : Nat) : Int) - (-o.sl + ((j : Nat) : Int)))
      have hcx := Orb.cx_lt o (s.1 + ((i : Nat) : Int) - (-o.sl + ((j : Nat) : Int)))
      have hvc : Globe.vcB ((Swath.sx o ((((pk30 : Nat) : Int)) - 4) (s.1 + ((i : Nat) : Int) - (-o.sl + ((j : Nat) : Int))) : Nat) : Int) ((Orb.cy o (s.1 + ((i : Nat) : Int) - (-o.sl + ((j : Nat) : Int))) : Nat) : Int) = true := Globe.vcB_t.2 ⟨by omega, by omega, by omega, by omega⟩
      have hbd := Swath.suns_bd o s ((((pk30 : Nat) : Int)) - 4) (j := j) (i := i) hlt9 hlt
      refine cw_seq ?_
      refine cw_seq ?_
      refine cw_plain ?_
      refine pl_take (.int .i64 (s.1 + ((i : Nat) : Int) : Int)) rfl (by kernel_rfl) (by kernel_rfl) (by kernel_rfl) (by kernel_rfl) ?_
      refine pl_take (.pointer (some ⟨O23, 1, none⟩)) rfl (by kernel_rfl) (by kernel_rfl) (by kernel_rfl) (by kernel_rfl) ?_
      refine pl_take (.int .i64 (s.2 : Int)) rfl (by kernel_rfl) (by kernel_rfl) (by kernel_rfl) (ex_load rfl (by kernel_rfl) (ld3 ((BoxAt.ext (hX33.trans hX37) bO23_1).1))) ?_
      refine pl_take (.bool true) rfl (by kernel_rfl) (by kernel_rfl) (by kernel_rfl) (ev_dec (show _ = Result.ok (Next.value (Value.bool (decide ((s.1 + ((i : Nat) : Int) : Int) < (s.2 : Int))))) _ from by kernel_rfl) (by omega)) ?_
      refine pl_nil ?_
      refine qw_then ?_
      refine cw_t (by kernel_rfl) ?_
      refine cw_skip ?_
      refine qw_then ?_
      refine cw_seq ?_
      refine cw_block ?_
      refine cw_seq ?_
      refine cw_plain ?_
      have hY41 := hX20.trans hX33
      refine pl_take (.agg #[.int .i64 (o.p : Int), .int .i64 (o.f : Int), .int .i64 (o.lo : Int), .int .i64 (o.hi : Int), .int .i64 (o.nd : Int), .int .i64 (o.tn : Int), .int .i64 (o.sl : Int)]) rfl (by kernel_rfl) (by kernel_rfl) (by kernel_rfl) (ex_load rfl (by kernel_rfl) (ld24 ((BoxAt.ext (hY41.trans hX37) bO14_0).1) ((BoxAt.ext (hY41.trans hX37) bO14_1).1) ((BoxAt.ext (hY41.trans hX37) bO14_2).1) ((BoxAt.ext (hY41.trans hX37) bO14_3).1) ((BoxAt.ext (hY41.trans hX37) bO14_4).1) ((BoxAt.ext (hY41.trans hX37) bO14_5).1) ((BoxAt.ext (hY41.trans hX37) bO14_6).1))) ?_
      refine pl_take (.int .i64 (s.1 + ((i : Nat) : Int) : Int)) rfl (by kernel_rfl) (by kernel_rfl) (by kernel_rfl) (by kernel_rfl) ?_
      refine pl_take (.int .i64 (-o.sl + ((j : Nat) : Int) : Int)) rfl (by kernel_rfl) (by kernel_rfl) (by kernel_rfl) (by kernel_rfl) ?_
      refine pl_step rfl (by kernel_rfl) (by kernel_rfl) (by kernel_rfl) (sn_call (f := 28) (args := #[.agg #[.int .i64 (o.p : Int), .int .i64 (o.f : Int), .int .i64 (o.lo : Int), .int .i64 (o.hi : Int), .int .i64 (o.nd : Int), .int .i64 (o.tn : Int), .int .i64 (o.sl : Int)], .int .i64 (s.1 + ((i : Nat) : Int) : Int), .int .i64 (-o.sl + ((j : Nat) : Int) : Int)]) (by kernel_rfl) ((At_y o (s.1 + ((i : Nat) : Int)) (-o.sl + ((j : Nat) : Int)) _ (by unfold Orb.atB; rw [show Globe.inB (s.1 + ((i : Nat) : Int)) 0 1000000 = true from Globe.inB_t.2 ⟨by omega, by omega⟩, show Globe.inB (-o.sl + ((j : Nat) : Int)) (-10) 10 = true from Globe.inB_t.2 ⟨by omega, by omega⟩, hok]; rfl)).mono ?_))
      rintro e w42 ⟨rfl, hb⟩
      replace hE := hE.trans hb
      replace hX37 := hX37.trans hb
      have hs43 := hb.size
      clear hb
      refine ⟨_, rfl, ?_⟩
      refine pl_take (.tuple #[.agg #[.int .i64 (((Orb.cx o ((s.1 + ((i : Nat) : Int)) - (-o.sl + ((j : Nat) : Int))) : Nat) : Int) : Int), .int .i64 (((Orb.cy o ((s.1 + ((i : Nat) : Int)) - (-o.sl + ((j : Nat) : Int))) : Nat) : Int) : Int)], .int .i64 0]) rfl (by kernel_rfl) (by kernel_rfl) (by kernel_rfl) (by kernel_rfl) ?_
      refine pl_take (.agg #[.int .i64 (((Orb.cx o ((s.1 + ((i : Nat) : Int)) - (-o.sl + ((j : Nat) : Int))) : Nat) : Int) : Int), .int .i64 (((Orb.cy o ((s.1 + ((i : Nat) : Int)) - (-o.sl + ((j : Nat) : Int))) : Nat) : Int) : Int)]) rfl (by kernel_rfl) (by kernel_rfl) (by kernel_rfl) (by kernel_rfl) ?_
      refine pl_take (.int .i64 0) rfl (by kernel_rfl) (by kernel_rfl) (by kernel_rfl) (by kernel_rfl) ?_
      refine pl_step rfl (by kernel_rfl) (by kernel_rfl) (by kernel_rfl) (sn_new (us := #[.int .i64 0, .int .i64 0]) (t := 57) (by kernel_rfl) ?_)
      intro O44 X45 hO hOs hb hbx
      have hzO44 := hO; have hyO44 := hOs; clear hO hOs
      have bO44_0 : BoxAt X45 O44 0 (.int .i64 0) := hbx 0 _ rfl
      have bO44_1 : BoxAt X45 O44 1 (.int .i64 0) := hbx 1 _ rfl
      clear hbx
      replace hE := hE.trans hb
      replace hX37 := hX37.trans hb
      have hs46 := hb.size
      clear hb
      have lt47 := bO44_0.lt
      refine pl_put rfl (by kernel_rfl) (by kernel_rfl) (sn_set2 (O := O44) (j := 0) (v := .int .i64 (((Orb.cx o ((s.1 + ((i : Nat) : Int)) - (-o.sl + ((j : Nat) : Int))) : Nat) : Int) : Int)) (v' := .int .i64 (((Orb.cy o ((s.1 + ((i : Nat) : Int)) - (-o.sl + ((j : Nat) : Int))) : Nat) : Int) : Int)) (ex_store (p := .pointer (some ⟨O44, 0, none⟩)) (v := .agg #[.int .i64 (((Orb.cx o ((s.1 + ((i : Nat) : Int)) - (-o.sl + ((j : Nat) : Int))) : Nat) : Int) : Int), .int .i64 (((Orb.cy o ((s.1 + ((i : Nat) : Int)) - (-o.sl + ((j : Nat) : Int))) : Nat) : Int) : Int)]) rfl (by kernel_rfl) (by kernel_rfl) (st57 bO44_0.1 bO44_0.2 bO44_1.1 bO44_1.2)) bO44_0 bO44_1 ?_)
      intro X48 ho hv0 hv1 hk
      replace hE := ho.ext hE (Nat.le_trans (Nat.le_trans hs3 (Nat.le_trans hs7 (Nat.le_trans hs11 (Nat.le_trans hs13 (Nat.le_trans hs16 (Nat.le_trans hs19 (Nat.le_trans hs22 (Nat.le_trans hs25 (Nat.le_trans hs28 (Nat.le_trans hs32 (Nat.le_trans hs34 (Nat.le_trans hs38 hs43)))))))))))) (Nat.le_of_eq hzO44))
      replace hX37 := ho.ext hX37 (Nat.le_trans (Nat.le_trans hs38 hs43) (Nat.le_of_eq hzO44))
      have hs49 : X45.heap.size ≤ X48.heap.size := Nat.le_of_eq ho.size.symm
      clear ho hk bO44_0 bO44_1
      have bO44_0 := hv0; clear hv0
      have bO44_1 := hv1; clear hv1
      refine pl_take (.int .i64 0) rfl (by kernel_rfl) (by kernel_rfl) (by kernel_rfl) (by kernel_rfl) ?_
      refine pl_nil ?_
      refine qw_then ?_
      refine cw_clean [7, 8, 9, 10, 11, 12, 14, 15, 16, 17, 18, 19] (ws' := [(7, .bool true), (8, .pointer (some ⟨O14, 0, none⟩)), (9, .pointer (some ⟨O23, 0, none⟩)), (10, .int .i64 ((((pk30 : Nat) : Int)) - 4 : Int)), (11, .int .i64 ((Swath.suns o s ((((pk30 : Nat) : Int)) - 4)).1 : Int)), (12, .int .i64 ((Swath.suns o s ((((pk30 : Nat) : Int)) - 4)).2 : Int)), (14, .bool p1), (15, .bool q1), (16, .int .i64 (-o.sl + ((j : Nat) : Int) : Int)), (17, .int .i64 (s.1 + ((i : Nat) : Int) : Int)), (18, .pointer (some ⟨O44, 0, none⟩)), (19, .int .i64 0)]) (by kernel_rfl) (fun L => ?_)
      refine cw_seq ?_
      refine cw_plain ?_
      refine pl_take (.pointer (some ⟨O44, 0, none⟩)) rfl (by kernel_rfl) (by kernel_rfl) (by kernel_rfl) (by kernel_rfl) ?_
      refine pl_take (.int .i64 (((Orb.cx o ((s.1 + ((i : Nat) : Int)) - (-o.sl + ((j : Nat) : Int))) : Nat) : Int) : Int)) rfl (by kernel_rfl) (by kernel_rfl) (by kernel_rfl) (ex_load rfl (by kernel_rfl) (ld3 (bO44_0.1))) ?_
      refine pl_take (.int .i64 ((((pk30 : Nat) : Int)) - 4 : Int)) rfl (by kernel_rfl) (by kernel_rfl) (by kernel_rfl) (by kernel_rfl) ?_
      refine pl_take (.int .i64 ((((Orb.cx o ((s.1 + ((i : Nat) : Int)) - (-o.sl + ((j : Nat) : Int))) : Nat) : Int)) + ((((pk30 : Nat) : Int)) - 4) : Int)) rfl (by kernel_rfl) (by kernel_rfl) (by kernel_rfl) (ev_wrap (by kernel_rfl) (by omega) (by omega)) ?_
      refine pl_take (.int .i64 (((((Orb.cx o ((s.1 + ((i : Nat) : Int)) - (-o.sl + ((j : Nat) : Int))) : Nat) : Int)) + ((((pk30 : Nat) : Int)) - 4)) + 48 : Int)) rfl (by kernel_rfl) (by kernel_rfl) (by kernel_rfl) (ev_wrap (by kernel_rfl) (by omega) (by omega)) ?_
      refine pl_take (.int .i64 (((Swath.sx o ((((pk30 : Nat) : Int)) - 4) (s.1 + ((i : Nat) : Int) - (-o.sl + ((j : Nat) : Int))) : Nat) : Int) : Int)) rfl (by kernel_rfl) (by kernel_rfl) (by kernel_rfl) (ev_int (ex_bin (a := ((Orb.cx o (s.1 + ((i : Nat) : Int) - (-o.sl + ((j : Nat) : Int))) : Nat) : Int) + ((((pk30 : Nat) : Int)) - 4) + 48) (b := 48) rfl (by kernel_rfl) (by kernel_rfl) (bin_tmod (by omega))) ((Int.tmod_eq_emod_of_nonneg (by omega)).trans (Swath.sx_z o _ _))) ?_
      refine pl_take (.pointer (some ⟨O44, 1, none⟩)) rfl (by kernel_rfl) (by kernel_rfl) (by kernel_rfl) (by kernel_rfl) ?_
      refine pl_take (.int .i64 (((Orb.cy o ((s.1 + ((i : Nat) : Int)) - (-o.sl + ((j : Nat) : Int))) : Nat) : Int) : Int)) rfl (by kernel_rfl) (by kernel_rfl) (by kernel_rfl) (ex_load rfl (by kernel_rfl) (ld3 (bO44_1.1))) ?_
      refine pl_take (.agg #[.int .i64 (((Swath.sx o ((((pk30 : Nat) : Int)) - 4) (s.1 + ((i : Nat) : Int) - (-o.sl + ((j : Nat) : Int))) : Nat) : Int) : Int), .int .i64 (((Orb.cy o ((s.1 + ((i : Nat) : Int)) - (-o.sl + ((j : Nat) : Int))) : Nat) : Int) : Int)]) rfl (by kernel_rfl) (by kernel_rfl) (by kernel_rfl) (by kernel_rfl) ?_
      refine pl_take (.int .i64 (s.1 + ((i : Nat) : Int) : Int)) rfl (by kernel_rfl) (by kernel_rfl) (by kernel_rfl) (by kernel_rfl) ?_
      refine pl_step rfl (by kernel_rfl) (by kernel_rfl) (by kernel_rfl) (sn_call (f := 29) (args := #[.agg #[.int .i64 (((Swath.sx o ((((pk30 : Nat) : Int)) - 4) (s.1 + ((i : Nat) : Int) - (-o.sl + ((j : Nat) : Int))) : Nat) : Int) : Int), .int .i64 (((Orb.cy o ((s.1 + ((i : Nat) : Int)) - (-o.sl + ((j : Nat) : Int))) : Nat) : Int) : Int)], .int .i64 (s.1 + ((i : Nat) : Int) : Int)]) (by kernel_rfl) ((Height_yes _ _ _ _ hmin hvc).mono ?_))
      rintro e w50 ⟨rfl, hb⟩
      replace hE := hE.trans hb
      replace hX37 := hX37.trans hb
      replace bO44_0 := BoxAt.ext hb bO44_0
      replace bO44_1 := BoxAt.ext hb bO44_1
      have hs51 := hb.size
      clear hb
      refine ⟨_, rfl, ?_⟩
      refine pl_take (.tuple #[.int .i64 (Swath.hgtJ o s ((((pk30 : Nat) : Int)) - 4) j i : Int), .int .i64 0]) rfl (by kernel_rfl) (by kernel_rfl) (by kernel_rfl) (by kernel_rfl) ?_
      refine pl_take (.int .i64 (Swath.hgtJ o s ((((pk30 : Nat) : Int)) - 4) j i : Int)) rfl (by kernel_rfl) (by kernel_rfl) (by kernel_rfl) (by kernel_rfl) ?_
      refine pl_take (.int .i64 0) rfl (by kernel_rfl) (by kernel_rfl) (by kernel_rfl) (by kernel_rfl) ?_
      refine pl_take (.int .i64 (Swath.hgtJ o s ((((pk30 : Nat) : Int)) - 4) j i : Int)) rfl (by kernel_rfl) (by kernel_rfl) (by kernel_rfl) (by kernel_rfl) ?_
      refine pl_take (.int .i64 0) rfl (by kernel_rfl) (by kernel_rfl) (by kernel_rfl) (by kernel_rfl) ?_
      refine pl_nil ?_
      refine qw_then ?_
      refine cw_clean [7, 8, 9, 10, 11, 12, 14, 15, 16, 17, 19, 20, 21] (ws' := [(7, .bool true), (8, .pointer (some ⟨O14, 0, none⟩)), (9, .pointer (some ⟨O23, 0, none⟩)), (10, .int .i64 ((((pk30 : Nat) : Int)) - 4 : Int)), (11, .int .i64 ((Swath.suns o s ((((pk30 : Nat) : Int)) - 4)).1 : Int)), (12, .int .i64 ((Swath.suns o s ((((pk30 : Nat) : Int)) - 4)).2 : Int)), (14, .bool p1), (15, .bool q1), (16, .int .i64 (-o.sl + ((j : Nat) : Int) : Int)), (17, .int .i64 (s.1 + ((i : Nat) : Int) : Int)), (19, .int .i64 0), (20, .int .i64 (Swath.hgtJ o s ((((pk30 : Nat) : Int)) - 4) j i : Int)), (21, .int .i64 0)]) (by kernel_rfl) (fun L => ?_)
      refine cw_seq ?_
      refine cw_seq ?_
      refine cw_plain ?_
      refine pl_take (.int .i64 0) rfl (by kernel_rfl) (by kernel_rfl) (by kernel_rfl) (by kernel_rfl) ?_
      refine pl_take (.bool false) rfl (by kernel_rfl) (by kernel_rfl) (by kernel_rfl) (by kernel_rfl) ?_
      refine pl_take (.bool false) rfl (by kernel_rfl) (by kernel_rfl) (by kernel_rfl) (by kernel_rfl) ?_
      refine pl_take (.int .i64 0) rfl (by kernel_rfl) (by kernel_rfl) (by kernel_rfl) (by kernel_rfl) ?_
      refine pl_take (.bool false) rfl (by kernel_rfl) (by kernel_rfl) (by kernel_rfl) (by kernel_rfl) ?_
      refine pl_take (.bool false) rfl (by kernel_rfl) (by kernel_rfl) (by kernel_rfl) (by kernel_rfl) ?_
      refine pl_take (.bool false) rfl (by kernel_rfl) (by kernel_rfl) (by kernel_rfl) (by kernel_rfl) ?_
      refine pl_take (.int .i64 (Swath.hgtJ o s ((((pk30 : Nat) : Int)) - 4) j i : Int)) rfl (by kernel_rfl) (by kernel_rfl) (by kernel_rfl) (by kernel_rfl) ?_
      refine pl_take (.int .i64 ((Swath.suns o s ((((pk30 : Nat) : Int)) - 4)).1 : Int)) rfl (by kernel_rfl) (by kernel_rfl) (by kernel_rfl) (by kernel_rfl) ?_
      refine pl_take (.bool false) rfl (by kernel_rfl) (by kernel_rfl) (by kernel_rfl) (ev_ndec (show _ = Result.ok (Next.value (Value.bool (decide ((Swath.hgtJ o s ((((pk30 : Nat) : Int)) - 4) j i : Int) < ((Swath.suns o s ((((pk30 : Nat) : Int)) - 4)).1 : Int))))) _ from by kernel_rfl) (by omega)) ?_
      refine pl_take (.bool false) rfl (by kernel_rfl) (by kernel_rfl) (by kernel_rfl) (by kernel_rfl) ?_
      refine pl_take (.bool false) rfl (by kernel_rfl) (by kernel_rfl) (by kernel_rfl) (by kernel_rfl) ?_
      refine pl_take (.int .i64 (Swath.hgtJ o s ((((pk30 : Nat) : Int)) - 4) j i : Int)) rfl (by kernel_rfl) (by kernel_rfl) (by kernel_rfl) (by kernel_rfl) ?_
      refine pl_take (.int .i64 ((Swath.suns o s ((((pk30 : Nat) : Int)) - 4)).2 : Int)) rfl (by kernel_rfl) (by kernel_rfl) (by kernel_rfl) (by kernel_rfl) ?_
      refine pl_take (.bool false) rfl (by kernel_rfl) (by kernel_rfl) (by kernel_rfl) (ev_ndec (show _ = Result.ok (Next.value (Value.bool (decide ((Swath.hgtJ o s ((((pk30 : Nat) : Int)) - 4) j i : Int) > ((Swath.suns o s ((((pk30 : Nat) : Int)) - 4)).2 : Int))))) _ from by kernel_rfl) (by omega)) ?_
      refine pl_take (.bool false) rfl (by kernel_rfl) (by kernel_rfl) (by kernel_rfl) (by kernel_rfl) ?_
      refine pl_nil ?_
      refine qw_then ?_
      refine cw_clean [7, 8, 9, 10, 11, 12, 14, 15, 16, 17, 20, 95] (ws' := [(7, .bool true), (8, .pointer (some ⟨O14, 0, none⟩)), (9, .pointer (some ⟨O23, 0, none⟩)), (10, .int .i64 ((((pk30 : Nat) : Int)) - 4 : Int)), (11, .int .i64 ((Swath.suns o s ((((pk30 : Nat) : Int)) - 4)).1 : Int)), (12, .int .i64 ((Swath.suns o s ((((pk30 : Nat) : Int)) - 4)).2 : Int)), (14, .bool p1), (15, .bool q1), (16, .int .i64 (-o.sl + ((j : Nat) : Int) : Int)), (17, .int .i64 (s.1 + ((i : Nat) : Int) : Int)), (20, .int .i64 (Swath.hgtJ o s ((((pk30 : Nat) : Int)) - 4) j i : Int)), (95, .bool false)]) (by kernel_rfl) (fun L => ?_)
      refine cw_f (by kernel_rfl) ?_
      refine cw_skip ?_
      refine qw_then ?_
      refine cw_seq ?_
      rcases Bool.eq_false_or_eq_true p1 with hp12 | hp12
      ·
        subst hp12
        refine cw_plain ?_
        refine pl_take (.bool true) rfl (by kernel_rfl) (by kernel_rfl) (by kernel_rfl) (by kernel_rfl) ?_
        refine pl_take (.bool true) rfl (by kernel_rfl) (by kernel_rfl) (by kernel_rfl) (by kernel_rfl) ?_
        refine pl_skip rfl (by kernel_rfl) (by kernel_rfl) (by kernel_rfl) ?_
        refine pl_skip rfl (by kernel_rfl) (by kernel_rfl) (by kernel_rfl) ?_
        refine pl_skip rfl (by kernel_rfl) (by kernel_rfl) (by kernel_rfl) ?_
        refine pl_take (.bool true) rfl (by kernel_rfl) (by kernel_rfl) (by kernel_rfl) (by kernel_rfl) ?_
        refine pl_take (.bool true) rfl (by kernel_rfl) (by kernel_rfl) (by kernel_rfl) (by kernel_rfl) ?_
        refine pl_nil ?_
        refine qw_then ?_
        refine cw_clean [7, 8, 9, 10, 11, 12, 14, 15, 16, 17, 20] (ws' := [(7, .bool true), (8, .pointer (some ⟨O14, 0, none⟩)), (9, .pointer (some ⟨O23, 0, none⟩)), (10, .int .i64 ((((pk30 : Nat) : Int)) - 4 : Int)), (11, .int .i64 ((Swath.suns o s ((((pk30 : Nat) : Int)) - 4)).1 : Int)), (12, .int .i64 ((Swath.suns o s ((((pk30 : Nat) : Int)) - 4)).2 : Int)), (14, .bool true), (15, .bool q1), (16, .int .i64 (-o.sl + ((j : Nat) : Int) : Int)), (17, .int .i64 (s.1 + ((i : Nat) : Int) : Int)), (20, .int .i64 (Swath.hgtJ o s ((((pk30 : Nat) : Int)) - 4) j i : Int))]) (by kernel_rfl) (fun L => ?_)
        rcases Bool.eq_false_or_eq_true q1 with hq12 | hq12
        ·
          subst hq12
          refine cw_plain ?_
          refine pl_take (.bool true) rfl (by kernel_rfl) (by kernel_rfl) (by kernel_rfl) (by kernel_rfl) ?_
          refine pl_take (.bool true) rfl (by kernel_rfl) (by kernel_rfl) (by kernel_rfl) (by kernel_rfl) ?_
          refine pl_skip rfl (by kernel_rfl) (by kernel_rfl) (by kernel_rfl) ?_
          refine pl_skip rfl (by kernel_rfl) (by kernel_rfl) (by kernel_rfl) ?_
          refine pl_skip rfl (by kernel_rfl) (by kernel_rfl) (by kernel_rfl) ?_
          refine pl_take (.bool true) rfl (by kernel_rfl) (by kernel_rfl) (by kernel_rfl) (by kernel_rfl) ?_
          refine pl_take (.bool true) rfl (by kernel_rfl) (by kernel_rfl) (by kernel_rfl) (by kernel_rfl) ?_
          refine pl_nil ?_
          refine qw_block ?_
          refine qw_then ?_
          refine cw_clean [7, 8, 9, 10, 11, 12, 14, 15, 16, 17] (ws' := [(7, .bool true), (8, .pointer (some ⟨O14, 0, none⟩)), (9, .pointer (some ⟨O23, 0, none⟩)), (10, .int .i64 ((((pk30 : Nat) : Int)) - 4 : Int)), (11, .int .i64 ((Swath.suns o s ((((pk30 : Nat) : Int)) - 4)).1 : Int)), (12, .int .i64 ((Swath.suns o s ((((pk30 : Nat) : Int)) - 4)).2 : Int)), (14, .bool true), (15, .bool true), (16, .int .i64 (-o.sl + ((j : Nat) : Int) : Int)), (17, .int .i64 (s.1 + ((i : Nat) : Int) : Int))]) (by kernel_rfl) (fun L => ?_)
          refine cw_plain ?_
          refine pl_take (.int .i64 (s.1 + ((i : Nat) : Int) : Int)) rfl (by kernel_rfl) (by kernel_rfl) (by kernel_rfl) (by kernel_rfl) ?_
          refine pl_take (.int .i64 (s.1 + ((i + 1 : Nat) : Int) : Int)) rfl (by kernel_rfl) (by kernel_rfl) (by kernel_rfl) (ev_int (ev_wrap (a := s.1 + ((i : Nat) : Int) + 1) (by kernel_rfl) (by omega) (by omega)) (by omega)) ?_
          refine pl_take (.int .i64 (s.1 + ((i + 1 : Nat) : Int) : Int)) rfl (by kernel_rfl) (by kernel_rfl) (by kernel_rfl) (by kernel_rfl) ?_
          refine pl_nil ?_
          refine qw_round [7, 8, 9, 10, 11, 12, 14, 15, 16, 17] (ws' := [(7, .bool true), (8, .pointer (some ⟨O14, 0, none⟩)), (9, .pointer (some ⟨O23, 0, none⟩)), (10, .int .i64 ((((pk30 : Nat) : Int)) - 4 : Int)), (11, .int .i64 ((Swath.suns o s ((((pk30 : Nat) : Int)) - 4)).1 : Int)), (12, .int .i64 ((Swath.suns o s ((((pk30 : Nat) : Int)) - 4)).2 : Int)), (14, .bool true), (15, .bool true), (16, .int .i64 (-o.sl + ((j : Nat) : Int) : Int)), (17, .int .i64 (s.1 + ((i + 1 : Nat) : Int) : Int))]) (by kernel_rfl) _ ?_ ⟨(i + 1), true, true, rfl, rfl, (Nat.le_trans hs38 (Nat.le_trans hs43 (Nat.le_trans hs46 (Nat.le_trans hs49 hs51)))), hE, hX37, (by rw [Swath.any_succ, ← Bool.or_assoc, ← hp1]; exact (Bool.true_or _).symm), (by rw [Swath.any_succ, ← Bool.or_assoc, ← hq1]; exact (Bool.true_or _).symm), by omega⟩
          omega
        ·
          subst hq12
          refine cw_plain ?_
          refine pl_take (.bool false) rfl (by kernel_rfl) (by kernel_rfl) (by kernel_rfl) (by kernel_rfl) ?_
          refine pl_take (.bool false) rfl (by kernel_rfl) (by kernel_rfl) (by kernel_rfl) (by kernel_rfl) ?_
          refine pl_take (.int .i64 (Swath.hgtJ o s ((((pk30 : Nat) : Int)) - 4) j i : Int)) rfl (by kernel_rfl) (by kernel_rfl) (by kernel_rfl) (by kernel_rfl) ?_
          refine pl_take (.int .i64 ((Swath.suns o s ((((pk30 : Nat) : Int)) - 4)).2 : Int)) rfl (by kernel_rfl) (by kernel_rfl) (by kernel_rfl) (by kernel_rfl) ?_
          refine pl_take (.bool (decide (Swath.hgtJ o s ((((pk30 : Nat) : Int)) - 4) j i = (Swath.suns o s ((((pk30 : Nat) : Int)) - 4)).2))) rfl (by kernel_rfl) (by kernel_rfl) (by kernel_rfl) (ev_bool (by kernel_rfl) rfl) ?_
          refine pl_take (.bool (decide (Swath.hgtJ o s ((((pk30 : Nat) : Int)) - 4) j i = (Swath.suns o s ((((pk30 : Nat) : Int)) - 4)).2))) rfl (by kernel_rfl) (by kernel_rfl) (by kernel_rfl) (by kernel_rfl) ?_
          refine pl_take (.bool (decide (Swath.hgtJ o s ((((pk30 : Nat) : Int)) - 4) j i = (Swath.suns o s ((((pk30 : Nat) : Int)) - 4)).2))) rfl (by kernel_rfl) (by kernel_rfl) (by kernel_rfl) (by kernel_rfl) ?_
          refine pl_nil ?_
          refine qw_block ?_
          refine qw_then ?_
          refine cw_clean [7, 8, 9, 10, 11, 12, 14, 15, 16, 17] (ws' := [(7, .bool true), (8, .pointer (some ⟨O14, 0, none⟩)), (9, .pointer (some ⟨O23, 0, none⟩)), (10, .int .i64 ((((pk30 : Nat) : Int)) - 4 : Int)), (11, .int .i64 ((Swath.suns o s ((((pk30 : Nat) : Int)) - 4)).1 : Int)), (12, .int .i64 ((Swath.suns o s ((((pk30 : Nat) : Int)) - 4)).2 : Int)), (14, .bool true), (15, .bool (decide (Swath.hgtJ o s ((((pk30 : Nat) : Int)) - 4) j i = (Swath.suns o s ((((pk30 : Nat) : Int)) - 4)).2))), (16, .int .i64 (-o.sl + ((j : Nat) : Int) : Int)), (17, .int .i64 (s.1 + ((i : Nat) : Int) : Int))]) (by kernel_rfl) (fun L => ?_)
          refine cw_plain ?_
          refine pl_take (.int .i64 (s.1 + ((i : Nat) : Int) : Int)) rfl (by kernel_rfl) (by kernel_rfl) (by kernel_rfl) (by kernel_rfl) ?_
          refine pl_take (.int .i64 (s.1 + ((i + 1 : Nat) : Int) : Int)) rfl (by kernel_rfl) (by kernel_rfl) (by kernel_rfl) (ev_int (ev_wrap (a := s.1 + ((i : Nat) : Int) + 1) (by kernel_rfl) (by omega) (by omega)) (by omega)) ?_
          refine pl_take (.int .i64 (s.1 + ((i + 1 : Nat) : Int) : Int)) rfl (by kernel_rfl) (by kernel_rfl) (by kernel_rfl) (by kernel_rfl) ?_
          refine pl_nil ?_
          refine qw_round [7, 8, 9, 10, 11, 12, 14, 15, 16, 17] (ws' := [(7, .bool true), (8, .pointer (some ⟨O14, 0, none⟩)), (9, .pointer (some ⟨O23, 0, none⟩)), (10, .int .i64 ((((pk30 : Nat) : Int)) - 4 : Int)), (11, .int .i64 ((Swath.suns o s ((((pk30 : Nat) : Int)) - 4)).1 : Int)), (12, .int .i64 ((Swath.suns o s ((((pk30 : Nat) : Int)) - 4)).2 : Int)), (14, .bool true), (15, .bool (decide (Swath.hgtJ o s ((((pk30 : Nat) : Int)) - 4) j i = (Swath.suns o s ((((pk30 : Nat) : Int)) - 4)).2))), (16, .int .i64 (-o.sl + ((j : Nat) : Int) : Int)), (17, .int .i64 (s.1 + ((i + 1 : Nat) : Int) : Int))]) (by kernel_rfl) _ ?_ ⟨(i + 1), true, (decide (Swath.hgtJ o s ((((pk30 : Nat) : Int)) - 4) j i = (Swath.suns o s ((((pk30 : Nat) : Int)) - 4)).2)), rfl, rfl, (Nat.le_trans hs38 (Nat.le_trans hs43 (Nat.le_trans hs46 (Nat.le_trans hs49 hs51)))), hE, hX37, (by rw [Swath.any_succ, ← Bool.or_assoc, ← hp1]; exact (Bool.true_or _).symm), (by rw [Swath.any_succ, ← Bool.or_assoc, ← hq1]; exact (Bool.false_or _).symm), by omega⟩
          omega
      ·
        subst hp12
        refine cw_plain ?_
        refine pl_take (.bool false) rfl (by kernel_rfl) (by kernel_rfl) (by kernel_rfl) (by kernel_rfl) ?_
        refine pl_take (.bool false) rfl (by kernel_rfl) (by kernel_rfl) (by kernel_rfl) (by kernel_rfl) ?_
        refine pl_take (.int .i64 (Swath.hgtJ o s ((((pk30 : Nat) : Int)) - 4) j i : Int)) rfl (by kernel_rfl) (by kernel_rfl) (by kernel_rfl) (by kernel_rfl) ?_
        refine pl_take (.int .i64 ((Swath.suns o s ((((pk30 : Nat) : Int)) - 4)).1 : Int)) rfl (by kernel_rfl) (by kernel_rfl) (by kernel_rfl) (by kernel_rfl) ?_
        refine pl_take (.bool (decide (Swath.hgtJ o s ((((pk30 : Nat) : Int)) - 4) j i = (Swath.suns o s ((((pk30 : Nat) : Int)) - 4)).1))) rfl (by kernel_rfl) (by kernel_rfl) (by kernel_rfl) (ev_bool (by kernel_rfl) rfl) ?_
        refine pl_take (.bool (decide (Swath.hgtJ o s ((((pk30 : Nat) : Int)) - 4) j i = (Swath.suns o s ((((pk30 : Nat) : Int)) - 4)).1))) rfl (by kernel_rfl) (by kernel_rfl) (by kernel_rfl) (by kernel_rfl) ?_
        refine pl_take (.bool (decide (Swath.hgtJ o s ((((pk30 : Nat) : Int)) - 4) j i = (Swath.suns o s ((((pk30 : Nat) : Int)) - 4)).1))) rfl (by kernel_rfl) (by kernel_rfl) (by kernel_rfl) (by kernel_rfl) ?_
        refine pl_nil ?_
        refine qw_then ?_
        refine cw_clean [7, 8, 9, 10, 11, 12, 14, 15, 16, 17, 20] (ws' := [(7, .bool true), (8, .pointer (some ⟨O14, 0, none⟩)), (9, .pointer (some ⟨O23, 0, none⟩)), (10, .int .i64 ((((pk30 : Nat) : Int)) - 4 : Int)), (11, .int .i64 ((Swath.suns o s ((((pk30 : Nat) : Int)) - 4)).1 : Int)), (12, .int .i64 ((Swath.suns o s ((((pk30 : Nat) : Int)) - 4)).2 : Int)), (14, .bool (decide (Swath.hgtJ o s ((((pk30 : Nat) : Int)) - 4) j i = (Swath.suns o s ((((pk30 : Nat) : Int)) - 4)).1))), (15, .bool q1), (16, .int .i64 (-o.sl + ((j : Nat) : Int) : Int)), (17, .int .i64 (s.1 + ((i : Nat) : Int) : Int)), (20, .int .i64 (Swath.hgtJ o s ((((pk30 : Nat) : Int)) - 4) j i : Int))]) (by kernel_rfl) (fun L => ?_)
        rcases Bool.eq_false_or_eq_true q1 with hq12 | hq12
        ·
          subst hq12
          refine cw_plain ?_
          refine pl_take (.bool true) rfl (by kernel_rfl) (by kernel_rfl) (by kernel_rfl) (by kernel_rfl) ?_
          refine pl_take (.bool true) rfl (by kernel_rfl) (by kernel_rfl) (by kernel_rfl) (by kernel_rfl) ?_
          refine pl_skip rfl (by kernel_rfl) (by kernel_rfl) (by kernel_rfl) ?_
          refine pl_skip rfl (by kernel_rfl) (by kernel_rfl) (by kernel_rfl) ?_
          refine pl_skip rfl (by kernel_rfl) (by kernel_rfl) (by kernel_rfl) ?_
          refine pl_take (.bool true) rfl (by kernel_rfl) (by kernel_rfl) (by kernel_rfl) (by kernel_rfl) ?_
          refine pl_take (.bool true) rfl (by kernel_rfl) (by kernel_rfl) (by kernel_rfl) (by kernel_rfl) ?_
          refine pl_nil ?_
          refine qw_block ?_
          refine qw_then ?_
          refine cw_clean [7, 8, 9, 10, 11, 12, 14, 15, 16, 17] (ws' := [(7, .bool true), (8, .pointer (some ⟨O14, 0, none⟩)), (9, .pointer (some ⟨O23, 0, none⟩)), (10, .int .i64 ((((pk30 : Nat) : Int)) - 4 : Int)), (11, .int .i64 ((Swath.suns o s ((((pk30 : Nat) : Int)) - 4)).1 : Int)), (12, .int .i64 ((Swath.suns o s ((((pk30 : Nat) : Int)) - 4)).2 : Int)), (14, .bool (decide (Swath.hgtJ o s ((((pk30 : Nat) : Int)) - 4) j i = (Swath.suns o s ((((pk30 : Nat) : Int)) - 4)).1))), (15, .bool true), (16, .int .i64 (-o.sl + ((j : Nat) : Int) : Int)), (17, .int .i64 (s.1 + ((i : Nat) : Int) : Int))]) (by kernel_rfl) (fun L => ?_)
          refine cw_plain ?_
          refine pl_take (.int .i64 (s.1 + ((i : Nat) : Int) : Int)) rfl (by kernel_rfl) (by kernel_rfl) (by kernel_rfl) (by kernel_rfl) ?_
          refine pl_take (.int .i64 (s.1 + ((i + 1 : Nat) : Int) : Int)) rfl (by kernel_rfl) (by kernel_rfl) (by kernel_rfl) (ev_int (ev_wrap (a := s.1 + ((i : Nat) : Int) + 1) (by kernel_rfl) (by omega) (by omega)) (by omega)) ?_
          refine pl_take (.int .i64 (s.1 + ((i + 1 : Nat) : Int) : Int)) rfl (by kernel_rfl) (by kernel_rfl) (by kernel_rfl) (by kernel_rfl) ?_
          refine pl_nil ?_
          refine qw_round [7, 8, 9, 10, 11, 12, 14, 15, 16, 17] (ws' := [(7, .bool true), (8, .pointer (some ⟨O14, 0, none⟩)), (9, .pointer (some ⟨O23, 0, none⟩)), (10, .int .i64 ((((pk30 : Nat) : Int)) - 4 : Int)), (11, .int .i64 ((Swath.suns o s ((((pk30 : Nat) : Int)) - 4)).1 : Int)), (12, .int .i64 ((Swath.suns o s ((((pk30 : Nat) : Int)) - 4)).2 : Int)), (14, .bool (decide (Swath.hgtJ o s ((((pk30 : Nat) : Int)) - 4) j i = (Swath.suns o s ((((pk30 : Nat) : Int)) - 4)).1))), (15, .bool true), (16, .int .i64 (-o.sl + ((j : Nat) : Int) : Int)), (17, .int .i64 (s.1 + ((i + 1 : Nat) : Int) : Int))]) (by kernel_rfl) _ ?_ ⟨(i + 1), (decide (Swath.hgtJ o s ((((pk30 : Nat) : Int)) - 4) j i = (Swath.suns o s ((((pk30 : Nat) : Int)) - 4)).1)), true, rfl, rfl, (Nat.le_trans hs38 (Nat.le_trans hs43 (Nat.le_trans hs46 (Nat.le_trans hs49 hs51)))), hE, hX37, (by rw [Swath.any_succ, ← Bool.or_assoc, ← hp1]; exact (Bool.false_or _).symm), (by rw [Swath.any_succ, ← Bool.or_assoc, ← hq1]; exact (Bool.true_or _).symm), by omega⟩
          omega
        ·
          subst hq12
          refine cw_plain ?_
          refine pl_take (.bool false) rfl (by kernel_rfl) (by kernel_rfl) (by kernel_rfl) (by kernel_rfl) ?_
          refine pl_take (.bool false) rfl (by kernel_rfl) (by kernel_rfl) (by kernel_rfl) (by kernel_rfl) ?_
          refine pl_take (.int .i64 (Swath.hgtJ o s ((((pk30 : Nat) : Int)) - 4) j i : Int)) rfl (by kernel_rfl) (by kernel_rfl) (by kernel_rfl) (by kernel_rfl) ?_
          refine pl_take (.int .i64 ((Swath.suns o s ((((pk30 : Nat) : Int)) - 4)).2 : Int)) rfl (by kernel_rfl) (by kernel_rfl) (by kernel_rfl) (by kernel_rfl) ?_
          refine pl_take (.bool (decide (Swath.hgtJ o s ((((pk30 : Nat) : Int)) - 4) j i = (Swath.suns o s ((((pk30 : Nat) : Int)) - 4)).2))) rfl (by kernel_rfl) (by kernel_rfl) (by kernel_rfl) (ev_bool (by kernel_rfl) rfl) ?_
          refine pl_take (.bool (decide (Swath.hgtJ o s ((((pk30 : Nat) : Int)) - 4) j i = (Swath.suns o s ((((pk30 : Nat) : Int)) - 4)).2))) rfl (by kernel_rfl) (by kernel_rfl) (by kernel_rfl) (by kernel_rfl) ?_
          refine pl_take (.bool (decide (Swath.hgtJ o s ((((pk30 : Nat) : Int)) - 4) j i = (Swath.suns o s ((((pk30 : Nat) : Int)) - 4)).2))) rfl (by kernel_rfl) (by kernel_rfl) (by kernel_rfl) (by kernel_rfl) ?_
          refine pl_nil ?_
          refine qw_block ?_
          refine qw_then ?_
          refine cw_clean [7, 8, 9, 10, 11, 12, 14, 15, 16, 17] (ws' := [(7, .bool true), (8, .pointer (some ⟨O14, 0, none⟩)), (9, .pointer (some ⟨O23, 0, none⟩)), (10, .int .i64 ((((pk30 : Nat) : Int)) - 4 : Int)), (11, .int .i64 ((Swath.suns o s ((((pk30 : Nat) : Int)) - 4)).1 : Int)), (12, .int .i64 ((Swath.suns o s ((((pk30 : Nat) : Int)) - 4)).2 : Int)), (14, .bool (decide (Swath.hgtJ o s ((((pk30 : Nat) : Int)) - 4) j i = (Swath.suns o s ((((pk30 : Nat) : Int)) - 4)).1))), (15, .bool (decide (Swath.hgtJ o s ((((pk30 : Nat) : Int)) - 4) j i = (Swath.suns o s ((((pk30 : Nat) : Int)) - 4)).2))), (16, .int .i64 (-o.sl + ((j : Nat) : Int) : Int)), (17, .int .i64 (s.1 + ((i : Nat) : Int) : Int))]) (by kernel_rfl) (fun L => ?_)
          refine cw_plain ?_
          refine pl_take (.int .i64 (s.1 + ((i : Nat) : Int) : Int)) rfl (by kernel_rfl) (by kernel_rfl) (by kernel_rfl) (by kernel_rfl) ?_
          refine pl_take (.int .i64 (s.1 + ((i + 1 : Nat) : Int) : Int)) rfl (by kernel_rfl) (by kernel_rfl) (by kernel_rfl) (ev_int (ev_wrap (a := s.1 + ((i : Nat) : Int) + 1) (by kernel_rfl) (by omega) (by omega)) (by omega)) ?_
          refine pl_take (.int .i64 (s.1 + ((i + 1 : Nat) : Int) : Int)) rfl (by kernel_rfl) (by kernel_rfl) (by kernel_rfl) (by kernel_rfl) ?_
          refine pl_nil ?_
          refine qw_round [7, 8, 9, 10, 11, 12, 14, 15, 16, 17] (ws' := [(7, .bool true), (8, .pointer (some ⟨O14, 0, none⟩)), (9, .pointer (some ⟨O23, 0, none⟩)), (10, .int .i64 ((((pk30 : Nat) : Int)) - 4 : Int)), (11, .int .i64 ((Swath.suns o s ((((pk30 : Nat) : Int)) - 4)).1 : Int)), (12, .int .i64 ((Swath.suns o s ((((pk30 : Nat) : Int)) - 4)).2 : Int)), (14, .bool (decide (Swath.hgtJ o s ((((pk30 : Nat) : Int)) - 4) j i = (Swath.suns o s ((((pk30 : Nat) : Int)) - 4)).1))), (15, .bool (decide (Swath.hgtJ o s ((((pk30 : Nat) : Int)) - 4) j i = (Swath.suns o s ((((pk30 : Nat) : Int)) - 4)).2))), (16, .int .i64 (-o.sl + ((j : Nat) : Int) : Int)), (17, .int .i64 (s.1 + ((i + 1 : Nat) : Int) : Int))]) (by kernel_rfl) _ ?_ ⟨(i + 1), (decide (Swath.hgtJ o s ((((pk30 : Nat) : Int)) - 4) j i = (Swath.suns o s ((((pk30 : Nat) : Int)) - 4)).1)), (decide (Swath.hgtJ o s ((((pk30 : Nat) : Int)) - 4) j i = (Swath.suns o s ((((pk30 : Nat) : Int)) - 4)).2)), rfl, rfl, (Nat.le_trans hs38 (Nat.le_trans hs43 (Nat.le_trans hs46 (Nat.le_trans hs49 hs51)))), hE, hX37, (by rw [Swath.any_succ, ← Bool.or_assoc, ← hp1]; exact (Bool.false_or _).symm), (by rw [Swath.any_succ, ← Bool.or_assoc, ← hq1]; exact (Bool.false_or _).symm), by omega⟩
          omega
    ·
      have him : i = Swath.mins s := by omega
      refine cw_seq ?_
      refine cw_seq ?_
      refine cw_plain ?_
      refine pl_take (.int .i64 (s.1 + ((i : Nat) : Int) : Int)) rfl (by kernel_rfl) (by kernel_rfl) (by kernel_rfl) (by kernel_rfl) ?_
      refine pl_take (.pointer (some ⟨O23, 1, none⟩)) rfl (by kernel_rfl) (by kernel_rfl) (by kernel_rfl) (by kernel_rfl) ?_
      refine pl_take (.int .i64 (s.2 : Int)) rfl (by kernel_rfl) (by kernel_rfl) (by kernel_rfl) (ex_load rfl (by kernel_rfl) (ld3 ((BoxAt.ext (hX33.trans hX37) bO23_1).1))) ?_
      refine pl_take (.bool false) rfl (by kernel_rfl) (by kernel_rfl) (by kernel_rfl) (ev_ndec (show _ = Result.ok (Next.value (Value.bool (decide ((s.1 + ((i : Nat) : Int) : Int) < (s.2 : Int))))) _ from by kernel_rfl) (by omega)) ?_
      refine pl_nil ?_
      refine qw_then ?_
      refine cw_f (by kernel_rfl) ?_
      refine cw_exit ?_
      refine qw_then_exit ?_
      refine qw_then_exit ?_
      refine qw_block_out ?_
      refine qw_block ?_
      refine qw_then ?_
      refine cw_plain ?_
      refine pl_take (.int .i64 (-o.sl + ((j : Nat) : Int) : Int)) rfl (by kernel_rfl) (by kernel_rfl) (by kernel_rfl) (by kernel_rfl) ?_
      refine pl_take (.int .i64 (-o.sl + ((j + 1 : Nat) : Int) : Int)) rfl (by kernel_rfl) (by kernel_rfl) (by kernel_rfl) (ev_int (ev_wrap (a := -o.sl + ((j : Nat) : Int) + 1) (by kernel_rfl) (by omega) (by omega)) (by omega)) ?_
      refine pl_take (.int .i64 (-o.sl + ((j + 1 : Nat) : Int) : Int)) rfl (by kernel_rfl) (by kernel_rfl) (by kernel_rfl) (by kernel_rfl) ?_
      refine pl_nil ?_
      refine qw_round [7, 8, 9, 10, 11, 12, 14, 15, 16] (ws' := [(7, .bool true), (8, .pointer (some ⟨O14, 0, none⟩)), (9, .pointer (some ⟨O23, 0, none⟩)), (10, .int .i64 ((((pk30 : Nat) : Int)) - 4 : Int)), (11, .int .i64 ((Swath.suns o s ((((pk30 : Nat) : Int)) - 4)).1 : Int)), (12, .int .i64 ((Swath.suns o s ((((pk30 : Nat) : Int)) - 4)).2 : Int)), (14, .bool p1), (15, .bool q1), (16, .int .i64 (-o.sl + ((j + 1 : Nat) : Int) : Int))]) (by kernel_rfl) _ ?_ ⟨(j + 1), p1, q1, rfl, rfl, (Nat.le_trans hs34 hs38), hE, (hX33.trans hX37), (by rw [Swath.any_succ, hp1, him]), (by rw [Swath.any_succ, hq1, him]), by omega⟩
      omega
  ·
    have hjn : j = Swath.lates o := by omega
    have hp9 : p = true := by rw [hp, hjn]; exact Swath.low_hit hh9 (by omega) (by omega)
    have hq9 : q = true := by rw [hq, hjn]; exact Swath.top_hit hh9 (by omega) (by omega)
    subst hp9; subst hq9
    refine cw_seq ?_
    refine cw_seq ?_
    refine cw_plain ?_
    refine pl_take (.int .i64 (-o.sl + ((j : Nat) : Int) : Int)) rfl (by kernel_rfl) (by kernel_rfl) (by kernel_rfl) (by kernel_rfl) ?_
    refine pl_take (.pointer (some ⟨O14, 6, none⟩)) rfl (by kernel_rfl) (by kernel_rfl) (by kernel_rfl) (by kernel_rfl) ?_
    refine pl_take (.int .i64 (o.sl : Int)) rfl (by kernel_rfl) (by kernel_rfl) (by kernel_rfl) (ex_load rfl (by kernel_rfl) (ld3 ((BoxAt.ext (hX20.trans hX33) bO14_6).1))) ?_
    refine pl_take (.bool false) rfl (by kernel_rfl) (by kernel_rfl) (by kernel_rfl) (ev_ndec (show _ = Result.ok (Next.value (Value.bool (decide ((-o.sl + ((j : Nat) : Int) : Int) ≤ (o.sl : Int))))) _ from by kernel_rfl) (by omega)) ?_
    refine pl_nil ?_
    refine qw_then ?_
    refine cw_f (by kernel_rfl) ?_
    refine cw_exit ?_
    refine qw_then_exit ?_
    refine qw_then_exit ?_
    refine qw_block_out ?_
    refine qw_then ?_
    refine cw_seq ?_
    refine cw_plain ?_
    refine pl_take (.bool true) rfl (by kernel_rfl) (by kernel_rfl) (by kernel_rfl) (by kernel_rfl) ?_
    refine pl_take (.bool true) rfl (by kernel_rfl) (by kernel_rfl) (by kernel_rfl) (by kernel_rfl) ?_
    refine pl_take (.bool true) rfl (by kernel_rfl) (by kernel_rfl) (by kernel_rfl) (by kernel_rfl) ?_
    refine pl_take (.bool true) rfl (by kernel_rfl) (by kernel_rfl) (by kernel_rfl) (by kernel_rfl) ?_
    refine pl_take (.bool true) rfl (by kernel_rfl) (by kernel_rfl) (by kernel_rfl) (by kernel_rfl) ?_
    refine pl_take (.bool true) rfl (by kernel_rfl) (by kernel_rfl) (by kernel_rfl) (by kernel_rfl) ?_
    refine pl_take (.bool true) rfl (by kernel_rfl) (by kernel_rfl) (by kernel_rfl) (by kernel_rfl) ?_
    refine pl_take (.bool true) rfl (by kernel_rfl) (by kernel_rfl) (by kernel_rfl) (by kernel_rfl) ?_
    refine pl_nil ?_
    refine qw_then ?_
    refine cw_clean [6] (ws' := [(6, .bool true)]) (by kernel_rfl) (fun L => ?_)
    refine cw_ret ?_
    refine qw_ret [.bool true] rfl ⟨(by kernel_rfl), trivial⟩ ?_
    exact ⟨rfl, hE⟩
theorem SwathSuns_walk (v0 : Value) (op0 : Seven v0) (v1 : Value) (op1 : Pair v1) (lk : Int) (ilk : IsI lk) (w : World) : Calls Try.prog 4 #[v0, v1, .int .i64 lk] w fun e w' => e = .returned (.bool true) ∧ Ext w w' := by
  obtain ⟨x0, x1, x2, x3, x4, x5, x6, rfl, ix0, ix1, ix2, ix3, ix4, ix5, ix6⟩ := op0
  obtain ⟨y0, y1, rfl, iy0, iy1⟩ := op1
  exact SwathSuns_w x0 x1 x2 x3 x4 x5 x6 y0 y1 lk  ix0 ix1 ix2 ix3 ix4 ix5 ix6 iy0 iy1 ilk w

end Go.Proofs.Ytdjjkhefdalokaa

/- The statement SwathSuns: for every input the law returns true, and every argument reads as it read before; the two tables of package math/bits that the row lists are tied to the program's text. -/
namespace Go.Proofs.Ytdjjkhefdalokaa
open Go.ChangeShapes Go.WideShapes Go.ChangeAt Go.RowKit

set_option maxRecDepth 100000 in
theorem SwathSuns_lifted (os : Os) (started : os.Started) (H : Type) (enc : TypeId × Value → H) :
    ReturnsInHanded {} Try.checked os 4 .any (Rows.swathSunsSpec.pre6 enc Try.prog Try.f4 Rows.swathSunsRow.domain false)
      (Rows.swathSunsSpec.post enc Try.prog Try.f4 false true false false) := by
  refine returnsInHanded_of_change_sized (C := Try.checked) own started (by kernel_rfl) Try.func4
    (ChangeSpec.witness6 (enc := enc) (C := Try.checked) false ⟨#[], #[.agg #[.int .i64 0, .int .i64 0, .int .i64 0, .int .i64 0, .int .i64 0, .int .i64 0, .int .i64 0], .agg #[.int .i64 0, .int .i64 0], .int .i64 0], []⟩ 8 (by kernel_rfl) (by kernel_rfl) (by kernel_rfl) (by kernel_rfl)) ?_
  intro W base args ds gs before hval0 hW _ hsz _
  have hval : ∀ (j : Nat) t v, Try.f4.params[j]? = some t → args[j]? = some v → Value.okWide Try.prog W .any base t v := hval0
  have hW' := hW
  obtain ⟨p, q, hA0, hV, rfl, hfz, hnd⟩ := hW
  have hA : DataW.TrodAll enc Try.prog W 0 (fun _ => true) true Try.f4.params.toList args.toList ds p := hA0
  rw [Try.params4] at hA hval
  obtain ⟨v0, vs0, d0, ds0, p0, q0, hargs, rfl, rfl, h0, r0⟩ := trodAll_cons hA
  obtain ⟨v1, vs1, d1, ds1, p1, q1, rfl, rfl, rfl, h1, r1⟩ := trodAll_cons r0
  obtain ⟨v2, vs2, d2, ds2, p2, q2, rfl, rfl, rfl, h2, r2⟩ := trodAll_cons r1
  obtain ⟨rfl, rfl, rfl⟩ := trodAll_nil r2
  obtain rfl : args = #[v0, v1, v2] := by cases args; simp_all
  obtain ⟨rfl, rfl⟩ := trodVars_none hV
  have k0 := h0
  have lt0 : ∀ x ∈ p0, x.block < W.heap.size := by obtain ⟨m, hm⟩ := k0; exact DataW.trod_lt m _ _ _ hm
  have op0 := open_seven (hval 0 _ v0 rfl rfl) h0
  have k1 := h1
  have lt1 : ∀ x ∈ p1, x.block < W.heap.size := by obtain ⟨m, hm⟩ := k1; exact DataW.trod_lt m _ _ _ hm
  have op1 := open_pair (hval 1 _ v1 rfl rfl) h1
  obtain ⟨a2, rfl, rfl, rfl, w2⟩ := open_int Try.underlying3 (hval 2 3 v2 rfl rfl) h2
  clear hA0 hval0
  refine (SwathSuns_walk v0 op0 v1 op1 a2 (isI_of_wf w2) W).mono fun e W' ⟨he, hE⟩ => ?_
  subst he
  have bel : Below W.heap.size W W' := hE
  exact ⟨_, rfl, _, _, _, [], _, [], hW', trodAll_mk1 (shut_bool Try.underlying4 _), (trodAll_cons_mk (Below.trod laidOut (by kernel_rfl) (of_decide_eq_true (by kernel_rfl)) k0 bel lt0) (trodAll_cons_mk (Below.trod laidOut (by kernel_rfl) (of_decide_eq_true (by kernel_rfl)) k1 bel lt1) (trodAll_cons_mk (shut_int Try.underlying3 w2) trodAll_mk0))), rfl, bel.frame _, fun h => by cases h⟩

theorem SwathSuns_over : Rows.SwathSunsSaid :=
  OpenClaim.holds_of_wide 4 Try.f4 rfl rfl rfl rfl rfl rfl rfl ⟨rfl, rfl, rfl, rfl, rfl⟩ rfl rfl rfl rfl rfl (by kernel_rfl) Try.func4 (by kernel_rfl)
    (of_decide_eq_true (by kernel_rfl)) (by unfold Func.isWrapper; first | (rw [if_pos (by decide +kernel)]; kernel_rfl) | (rw [if_neg (by decide +kernel)]; exact ⟨rfl, rfl⟩))
    (fun os started H enc _ => SwathSuns_lifted os started H enc)

theorem SwathSuns_holds : Rows.SwathSunsSaid := SwathSuns_over
#print axioms SwathSuns_holds
end Go.Proofs.Ytdjjkhefdalokaa
