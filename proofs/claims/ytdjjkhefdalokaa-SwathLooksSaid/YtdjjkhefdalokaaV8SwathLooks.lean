/- The statement SwathLooks: for every input that the row lists, the law returns true, and every argument reads as it read before. -/
import Derived.Test.YtdjjkhefdalokaaV7SwathLooks
/- The walk of SwathLooks. -/
namespace Go.Proofs.Ytdjjkhefdalokaa
open Go.RowKit

set_option maxRecDepth 1000000 in
set_option maxHeartbeats 4000000 in
theorem SwathLooks_w (x0 x1 x2 x3 x4 x5 x6 y0 y1 lk less : Int) (ix0 : IsI x0) (ix1 : IsI x1) (ix2 : IsI x2) (ix3 : IsI x3) (ix4 : IsI x4) (ix5 : IsI x5) (ix6 : IsI x6) (iy0 : IsI y0) (iy1 : IsI y1) (ilk : IsI lk) (iless : IsI less) (w : World) : Calls Try.prog 7 #[.agg #[.int .i64 x0, .int .i64 x1, .int .i64 x2, .int .i64 x3, .int .i64 x4, .int .i64 x5, .int .i64 x6], .agg #[.int .i64 y0, .int .i64 y1], .int .i64 lk, .int .i64 less] w fun e w' => e = .returned (.bool true) ∧ Ext w w' := by
  refine calls_cw 129 [(3, .int .i64 (less : Int)), (2, .int .i64 (lk : Int)), (1, .agg #[.int .i64 (y0 : Int), .int .i64 (y1 : Int)]), (0, .agg #[.int .i64 (x0 : Int), .int .i64 (x1 : Int), .int .i64 (x2 : Int), .int .i64 (x3 : Int), .int .i64 (x4 : Int), .int .i64 (x5 : Int), .int .i64 (x6 : Int)])] Try.func7 rfl Try.ntmps7 (by kernel_rfl) (by kernel_rfl) (fun L => ?_)
  have hE : Ext w w := Ext.refl w
  refine cw_seq ?_
  refine cw_plain ?_
  refine pl_step rfl (by kernel_rfl) (by kernel_rfl) (by kernel_rfl) (sn_new (us := #[.int .i64 (x0 : Int), .int .i64 (x1 : Int), .int .i64 (x2 : Int), .int .i64 (x3 : Int), .int .i64 (x4 : Int), .int .i64 (x5 : Int), .int .i64 (x6 : Int)]) (t := 22) (by kernel_rfl) ?_)
  intro O1 X2 hO hOs hb hbx
  have hzO1 := hO; have hyO1 := hOs; clear hO hOs
  have bO1_0 : BoxAt X2 O1 0 (.int .i64 (x0 : Int)) := hbx 0 _ rfl
  have bO1_1 : BoxAt X2 O1 1 (.int .i64 (x1 : Int)) := hbx 1 _ rfl
  have bO1_2 : BoxAt X2 O1 2 (.int .i64 (x2 : Int)) := hbx 2 _ rfl
  have bO1_3 : BoxAt X2 O1 3 (.int .i64 (x3 : Int)) := hbx 3 _ rfl
  have bO1_4 : BoxAt X2 O1 4 (.int .i64 (x4 : Int)) := hbx 4 _ rfl
  have bO1_5 : BoxAt X2 O1 5 (.int .i64 (x5 : Int)) := hbx 5 _ rfl
  have bO1_6 : BoxAt X2 O1 6 (.int .i64 (x6 : Int)) := hbx 6 _ rfl
  clear hbx
  replace hE := hE.trans hb
  have hs3 := hb.size
  clear hb
  have lt4 := bO1_0.lt
  refine pl_step rfl (by kernel_rfl) (by kernel_rfl) (by kernel_rfl) (sn_new (us := #[.int .i64 (y0 : Int), .int .i64 (y1 : Int)]) (t := 35) (by kernel_rfl) ?_)
  intro O5 X6 hO hOs hb hbx
  have hzO5 := hO; have hyO5 := hOs; clear hO hOs
  have bO5_0 : BoxAt X6 O5 0 (.int .i64 (y0 : Int)) := hbx 0 _ rfl
  have bO5_1 : BoxAt X6 O5 1 (.int .i64 (y1 : Int)) := hbx 1 _ rfl
  clear hbx
  replace hE := hE.trans hb
  replace bO1_0 := BoxAt.ext hb bO1_0
  replace bO1_1 := BoxAt.ext hb bO1_1
  replace bO1_2 := BoxAt.ext hb bO1_2
  replace bO1_3 := BoxAt.ext hb bO1_3
  replace bO1_4 := BoxAt.ext hb bO1_4
  replace bO1_5 := BoxAt.ext hb bO1_5
  replace bO1_6 := BoxAt.ext hb bO1_6
  have hs7 := hb.size
  clear hb
  have lt8 := bO5_0.lt
  refine pl_take (.bool false) rfl (by kernel_rfl) (by kernel_rfl) (by kernel_rfl) (by kernel_rfl) ?_
  refine pl_nil ?_
  refine qw_then ?_
  refine cw_seq ?_
  have hX9 : Ext X6 X6 := Ext.refl _
  refine cw_plain ?_
  refine pl_step rfl (by kernel_rfl) (by kernel_rfl) (by kernel_rfl) (sn_call (f := 9) (args := #[]) (by kernel_rfl) ((saneS_c _).mono ?_))
  rintro e w10 ⟨rfl, hb⟩
  replace hE := hE.trans hb
  replace hX9 := hX9.trans hb
  have hs11 := hb.size
  clear hb
  refine ⟨_, rfl, ?_⟩
  refine pl_take (.bool true) rfl (by kernel_rfl) (by kernel_rfl) (by kernel_rfl) (by kernel_rfl) ?_
  refine pl_nil ?_
  refine qw_then ?_
  refine cw_seq ?_
  refine cw_seq ?_
  refine cw_plain ?_
  refine pl_take (.bool true) rfl (by kernel_rfl) (by kernel_rfl) (by kernel_rfl) (by kernel_rfl) ?_
  refine pl_take (.bool false) rfl (by kernel_rfl) (by kernel_rfl) (by kernel_rfl) (by kernel_rfl) ?_
  refine pl_nil ?_
  refine qw_then ?_
  refine cw_f (by kernel_rfl) ?_
  refine cw_skip ?_
  refine qw_then ?_
  refine cw_seq ?_
  refine cw_plain ?_
  refine pl_take (.agg #[.int .i64 (x0 : Int), .int .i64 (x1 : Int), .int .i64 (x2 : Int), .int .i64 (x3 : Int), .int .i64 (x4 : Int), .int .i64 (x5 : Int), .int .i64 (x6 : Int)]) rfl (by kernel_rfl) (by kernel_rfl) (by kernel_rfl) (ex_load rfl (by kernel_rfl) (ld22 ((BoxAt.ext hX9 bO1_0).1) ((BoxAt.ext hX9 bO1_1).1) ((BoxAt.ext hX9 bO1_2).1) ((BoxAt.ext hX9 bO1_3).1) ((BoxAt.ext hX9 bO1_4).1) ((BoxAt.ext hX9 bO1_5).1) ((BoxAt.ext hX9 bO1_6).1))) ?_
  refine pl_step rfl (by kernel_rfl) (by kernel_rfl) (by kernel_rfl) (sn_call (f := 11) (args := #[.agg #[.int .i64 (x0 : Int), .int .i64 (x1 : Int), .int .i64 (x2 : Int), .int .i64 (x3 : Int), .int .i64 (x4 : Int), .int .i64 (x5 : Int), .int .i64 (x6 : Int)]]) (by kernel_rfl) ((Made7_c _ _ _ _ _ _ _ _ ix0 ix1 ix2 ix3 ix4 ix5 ix6).mono ?_))
  rintro e w12 ⟨o, rfl, hok, hsl, hb⟩
  replace hE := hE.trans hb
  replace hX9 := hX9.trans hb
  have hs13 := hb.size
  clear hb
  have hq0 := Orb.ok_t.1 hok
  refine ⟨_, rfl, ?_⟩
  refine pl_step rfl (by kernel_rfl) (by kernel_rfl) (by kernel_rfl) (sn_new (us := #[.int .i64 0, .int .i64 0, .int .i64 0, .int .i64 0, .int .i64 0, .int .i64 0, .int .i64 0]) (t := 24) (by kernel_rfl) ?_)
  intro O14 X15 hO hOs hb hbx
  have hzO14 := hO; have hyO14 := hOs; clear hO hOs
  have bO14_0 : BoxAt X15 O14 0 (.int .i64 0) := hbx 0 _ rfl
  have bO14_1 : BoxAt X15 O14 1 (.int .i64 0) := hbx 1 _ rfl
  have bO14_2 : BoxAt X15 O14 2 (.int .i64 0) := hbx 2 _ rfl
  have bO14_3 : BoxAt X15 O14 3 (.int .i64 0) := hbx 3 _ rfl
  have bO14_4 : BoxAt X15 O14 4 (.int .i64 0) := hbx 4 _ rfl
  have bO14_5 : BoxAt X15 O14 5 (.int .i64 0) := hbx 5 _ rfl
  have bO14_6 : BoxAt X15 O14 6 (.int .i64 0) := hbx 6 _ rfl
  clear hbx
  replace hE := hE.trans hb
  replace hX9 := hX9.trans hb
  have hs16 := hb.size
  clear hb
  have lt17 := bO14_0.lt
  refine pl_put rfl (by kernel_rfl) (by kernel_rfl) (sn_setK7 (O := O14) (j := 0) (v0 := .int .i64 (o.p : Int)) (v1 := .int .i64 (o.f : Int)) (v2 := .int .i64 (o.lo : Int)) (v3 := .int .i64 (o.hi : Int)) (v4 := .int .i64 (o.nd : Int)) (v5 := .int .i64 (o.tn : Int)) (v6 := .int .i64 (o.sl : Int)) (ex_store (p := .pointer (some ⟨O14, 0, none⟩)) (v := .agg #[.int .i64 (o.p : Int), .int .i64 (o.f : Int), .int .i64 (o.lo : Int), .int .i64 (o.hi : Int), .int .i64 (o.nd : Int), .int .i64 (o.tn : Int), .int .i64 (o.sl : Int)]) rfl (by kernel_rfl) (by kernel_rfl) (st24 bO14_0.1 bO14_0.2 bO14_1.1 bO14_1.2 bO14_2.1 bO14_2.2 bO14_3.1 bO14_3.2 bO14_4.1 bO14_4.2 bO14_5.1 bO14_5.2 bO14_6.1 bO14_6.2)) bO14_0 bO14_1 bO14_2 bO14_3 bO14_4 bO14_5 bO14_6 ?_)
  intro X18 ho hv0 hv1 hv2 hv3 hv4 hv5 hv6 hk
  replace hE := ho.ext hE (Nat.le_trans (Nat.le_trans hs3 (Nat.le_trans hs7 (Nat.le_trans hs11 hs13))) (Nat.le_of_eq hzO14))
  replace hX9 := ho.ext hX9 (Nat.le_trans (Nat.le_trans hs11 hs13) (Nat.le_of_eq hzO14))
  have hs19 : X15.heap.size ≤ X18.heap.size := Nat.le_of_eq ho.size.symm
  clear ho hk bO14_0 bO14_1 bO14_2 bO14_3 bO14_4 bO14_5 bO14_6
  have bO14_0 := hv0; clear hv0
  have bO14_1 := hv1; clear hv1
  have bO14_2 := hv2; clear hv2
  have bO14_3 := hv3; clear hv3
  have bO14_4 := hv4; clear hv4
  have bO14_5 := hv5; clear hv5
  have bO14_6 := hv6; clear hv6
  refine pl_nil ?_
  refine qw_then ?_
  refine cw_seq ?_
  have hX20 : Ext X18 X18 := Ext.refl _
  refine cw_plain ?_
  refine pl_take (.agg #[.int .i64 (y0 : Int), .int .i64 (y1 : Int)]) rfl (by kernel_rfl) (by kernel_rfl) (by kernel_rfl) (ex_load rfl (by kernel_rfl) (ld35 ((BoxAt.ext (hX9.trans hX20) bO5_0).1) ((BoxAt.ext (hX9.trans hX20) bO5_1).1))) ?_
  refine pl_step rfl (by kernel_rfl) (by kernel_rfl) (by kernel_rfl) (sn_call (f := 12) (args := #[.agg #[.int .i64 (y0 : Int), .int .i64 (y1 : Int)]]) (by kernel_rfl) ((Shot_c _ _ _ iy0 iy1).mono ?_))
  rintro e w21 ⟨s, rfl, hsp30, hsp1, hb⟩
  replace hE := hE.trans hb
  replace hX20 := hX20.trans hb
  have hs22 := hb.size
  clear hb
  have q2 := Swath.spB_t.1 hsp30
  refine ⟨_, rfl, ?_⟩
  refine pl_step rfl (by kernel_rfl) (by kernel_rfl) (by kernel_rfl) (sn_new (us := #[.int .i64 0, .int .i64 0]) (t := 26) (by kernel_rfl) ?_)
  intro O23 X24 hO hOs hb hbx
  have hzO23 := hO; have hyO23 := hOs; clear hO hOs
  have bO23_0 : BoxAt X24 O23 0 (.int .i64 0) := hbx 0 _ rfl
  have bO23_1 : BoxAt X24 O23 1 (.int .i64 0) := hbx 1 _ rfl
  clear hbx
  replace hE := hE.trans hb
  replace hX20 := hX20.trans hb
  have hs25 := hb.size
  clear hb
  have lt26 := bO23_0.lt
  refine pl_put rfl (by kernel_rfl) (by kernel_rfl) (sn_set2 (O := O23) (j := 0) (v := .int .i64 (s.1 : Int)) (v' := .int .i64 (s.2 : Int)) (ex_store (p := .pointer (some ⟨O23, 0, none⟩)) (v := .agg #[.int .i64 (s.1 : Int), .int .i64 (s.2 : Int)]) rfl (by kernel_rfl) (by kernel_rfl) (st26 bO23_0.1 bO23_0.2 bO23_1.1 bO23_1.2)) bO23_0 bO23_1 ?_)
  intro X27 ho hv0 hv1 hk
  replace hE := ho.ext hE (Nat.le_trans (Nat.le_trans hs3 (Nat.le_trans hs7 (Nat.le_trans hs11 (Nat.le_trans hs13 (Nat.le_trans hs16 (Nat.le_trans hs19 hs22)))))) (Nat.le_of_eq hzO23))
  replace hX20 := ho.ext hX20 (Nat.le_trans hs22 (Nat.le_of_eq hzO23))
  have hs28 : X24.heap.size ≤ X27.heap.size := Nat.le_of_eq ho.size.symm
  clear ho hk bO23_0 bO23_1
  have bO23_0 := hv0; clear hv0
  have bO23_1 := hv1; clear hv1
  refine pl_nil ?_
  refine qw_then ?_
  refine cw_clean [2, 3, 9, 10, 11] (ws' := [(2, .int .i64 (lk : Int)), (3, .int .i64 (less : Int)), (9, .bool true), (10, .pointer (some ⟨O14, 0, none⟩)), (11, .pointer (some ⟨O23, 0, none⟩))]) (by kernel_rfl) (fun L => ?_)
  refine cw_seq ?_
  refine cw_plain ?_
  refine pl_take (.int .i64 (lk : Int)) rfl (by kernel_rfl) (by kernel_rfl) (by kernel_rfl) (by kernel_rfl) ?_
  refine pl_step rfl (by kernel_rfl) (by kernel_rfl) (by kernel_rfl) (sn_call (f := 13) (args := #[.int .i64 (lk : Int), .int .i64 8]) (by kernel_rfl) ((pickL_n _ (8) _ ilk (by omega) (by omega)).mono ?_))
  rintro e w' ⟨pk30, rfl, pk30l, -, rfl⟩
  refine ⟨_, rfl, ?_⟩
  refine pl_take (.int .i64 ((((pk30 : Nat) : Int)) - 4 : Int)) rfl (by kernel_rfl) (by kernel_rfl) (by kernel_rfl) (ev_wrap (by kernel_rfl) (by omega) (by omega)) ?_
  refine pl_take (.int .i64 ((((pk30 : Nat) : Int)) - 4 : Int)) rfl (by kernel_rfl) (by kernel_rfl) (by kernel_rfl) (by kernel_rfl) ?_
  refine pl_nil ?_
  refine qw_then ?_
  refine cw_seq ?_
  refine cw_plain ?_
  refine pl_take (.agg #[.int .i64 (o.p : Int), .int .i64 (o.f : Int), .int .i64 (o.lo : Int), .int .i64 (o.hi : Int), .int .i64 (o.nd : Int), .int .i64 (o.tn : Int), .int .i64 (o.sl : Int)]) rfl (by kernel_rfl) (by kernel_rfl) (by kernel_rfl) (ex_load rfl (by kernel_rfl) (ld24 ((BoxAt.ext hX20 bO14_0).1) ((BoxAt.ext hX20 bO14_1).1) ((BoxAt.ext hX20 bO14_2).1) ((BoxAt.ext hX20 bO14_3).1) ((BoxAt.ext hX20 bO14_4).1) ((BoxAt.ext hX20 bO14_5).1) ((BoxAt.ext hX20 bO14_6).1))) ?_
  refine pl_take (.agg #[.int .i64 (s.1 : Int), .int .i64 (s.2 : Int)]) rfl (by kernel_rfl) (by kernel_rfl) (by kernel_rfl) (ex_load rfl (by kernel_rfl) (ld26 (bO23_0.1) (bO23_1.1))) ?_
  refine pl_take (.int .i64 ((((pk30 : Nat) : Int)) - 4 : Int)) rfl (by kernel_rfl) (by kernel_rfl) (by kernel_rfl) (by kernel_rfl) ?_
  refine pl_step rfl (by kernel_rfl) (by kernel_rfl) (by kernel_rfl) (sn_call (f := 17) (args := #[.agg #[.int .i64 (o.p : Int), .int .i64 (o.f : Int), .int .i64 (o.lo : Int), .int .i64 (o.hi : Int), .int .i64 (o.nd : Int), .int .i64 (o.tn : Int), .int .i64 (o.sl : Int)], .agg #[.int .i64 (s.1 : Int), .int .i64 (s.2 : Int)], .int .i64 ((((pk30 : Nat) : Int)) - 4 : Int)]) (by kernel_rfl) ((Strip_y (o := o) (s := s) (lk := (((pk30 : Nat) : Int)) - 4) _ (Swath.shB_t.2 ⟨hok, ⟨by first | omega | (simp only []; omega), by first | omega | (simp only []; omega), by first | omega | (simp only []; omega), by first | omega | (simp only []; omega)⟩, by omega, by omega⟩)).mono ?_))
  rintro e w40 ⟨B31, g32, k33, k34, rfl, hn35, hn36, hne37, hr38, hr39, hb⟩
  replace hE := hE.trans hb
  replace hX20 := hX20.trans hb
  replace bO23_0 := BoxAt.ext hb bO23_0
  replace bO23_1 := BoxAt.ext hb bO23_1
  have hs41 := hb.size
  clear hb
  have lt42 := hr38.lt
  have lt43 := hr39.lt
  have hne37h := Lib.hid hne37
  refine ⟨_, rfl, ?_⟩
  refine pl_take (.tuple #[.agg #[.slice (some ⟨B31, 0, none⟩) 24 k33, .slice (some ⟨g32, 0, none⟩) 24 k34], .int .i64 0]) rfl (by kernel_rfl) (by kernel_rfl) (by kernel_rfl) (by kernel_rfl) ?_
  refine pl_take (.agg #[.slice (some ⟨B31, 0, none⟩) 24 k33, .slice (some ⟨g32, 0, none⟩) 24 k34]) rfl (by kernel_rfl) (by kernel_rfl) (by kernel_rfl) (by kernel_rfl) ?_
  refine pl_take (.int .i64 0) rfl (by kernel_rfl) (by kernel_rfl) (by kernel_rfl) (by kernel_rfl) ?_
  refine pl_step rfl (by kernel_rfl) (by kernel_rfl) (by kernel_rfl) (sn_new (us := #[.slice none 0 0, .slice none 0 0]) (t := 44) (by kernel_rfl) ?_)
  intro O44 X45 hO hOs hb hbx
  have hzO44 := hO; have hyO44 := hOs; clear hO hOs
  have bO44_0 : BoxAt X45 O44 0 (.slice none 0 0) := hbx 0 _ rfl
  have bO44_1 : BoxAt X45 O44 1 (.slice none 0 0) := hbx 1 _ rfl
  clear hbx
  replace hE := hE.trans hb
  replace hX20 := hX20.trans hb
  replace bO23_0 := BoxAt.ext hb bO23_0
  replace bO23_1 := BoxAt.ext hb bO23_1
  replace hr38 := hr38.ext hb
  replace hr39 := hr39.ext hb
  have hs46 := hb.size
  clear hb
  have lt47 := bO44_0.lt
  refine pl_put rfl (by kernel_rfl) (by kernel_rfl) (sn_set2 (O := O44) (j := 0) (v := .slice (some ⟨B31, 0, none⟩) 24 k33) (v' := .slice (some ⟨g32, 0, none⟩) 24 k34) (ex_store (p := .pointer (some ⟨O44, 0, none⟩)) (v := .agg #[.slice (some ⟨B31, 0, none⟩) 24 k33, .slice (some ⟨g32, 0, none⟩) 24 k34]) rfl (by kernel_rfl) (by kernel_rfl) (st44 bO44_0.1 bO44_0.2 bO44_1.1 bO44_1.2)) bO44_0 bO44_1 ?_)
  intro X48 ho hv0 hv1 hk
  replace hE := ho.ext hE (Nat.le_trans (Nat.le_trans hs3 (Nat.le_trans hs7 (Nat.le_trans hs11 (Nat.le_trans hs13 (Nat.le_trans hs16 (Nat.le_trans hs19 (Nat.le_trans hs22 (Nat.le_trans hs25 (Nat.le_trans hs28 hs41))))))))) (Nat.le_of_eq hzO44))
  replace hX20 := ho.ext hX20 (Nat.le_trans (Nat.le_trans hs22 (Nat.le_trans hs25 (Nat.le_trans hs28 hs41))) (Nat.le_of_eq hzO44))
  replace bO23_0 := ho.box (Nat.ne_of_gt (Nat.lt_of_lt_of_le lt26 (Nat.le_trans (Nat.le_trans hs28 hs41) (Nat.le_of_eq hzO44)))) bO23_0
  replace bO23_1 := ho.box (Nat.ne_of_gt (Nat.lt_of_lt_of_le lt26 (Nat.le_trans (Nat.le_trans hs28 hs41) (Nat.le_of_eq hzO44)))) bO23_1
  replace hr38 := ho.rows (Nat.ne_of_gt (Nat.lt_of_lt_of_le lt42 (Nat.le_of_eq hzO44))) hr38
  replace hr39 := ho.rows (Nat.ne_of_gt (Nat.lt_of_lt_of_le lt43 (Nat.le_of_eq hzO44))) hr39
  have hs49 : X45.heap.size ≤ X48.heap.size := Nat.le_of_eq ho.size.symm
  clear ho hk bO44_0 bO44_1
  have bO44_0 := hv0; clear hv0
  have bO44_1 := hv1; clear hv1
  refine pl_take (.int .i64 0) rfl (by kernel_rfl) (by kernel_rfl) (by kernel_rfl) (by kernel_rfl) ?_
  refine pl_nil ?_
  refine qw_then ?_
  refine cw_clean [3, 9, 10, 11, 12, 13, 14] (ws' := [(3, .int .i64 (less : Int)), (9, .bool true), (10, .pointer (some ⟨O14, 0, none⟩)), (11, .pointer (some ⟨O23, 0, none⟩)), (12, .int .i64 ((((pk30 : Nat) : Int)) - 4 : Int)), (13, .pointer (some ⟨O44, 0, none⟩)), (14, .int .i64 0)]) (by kernel_rfl) (fun L => ?_)
  refine cw_seq ?_
  have hX50 : Ext X48 X48 := Ext.refl _
  refine cw_plain ?_
  refine pl_take (.agg #[.int .i64 (o.p : Int), .int .i64 (o.f : Int), .int .i64 (o.lo : Int), .int .i64 (o.hi : Int), .int .i64 (o.nd : Int), .int .i64 (o.tn : Int), .int .i64 (o.sl : Int)]) rfl (by kernel_rfl) (by kernel_rfl) (by kernel_rfl) (ex_load rfl (by kernel_rfl) (ld24 ((BoxAt.ext (hX20.trans hX50) bO14_0).1) ((BoxAt.ext (hX20.trans hX50) bO14_1).1) ((BoxAt.ext (hX20.trans hX50) bO14_2).1) ((BoxAt.ext (hX20.trans hX50) bO14_3).1) ((BoxAt.ext (hX20.trans hX50) bO14_4).1) ((BoxAt.ext (hX20.trans hX50) bO14_5).1) ((BoxAt.ext (hX20.trans hX50) bO14_6).1))) ?_
  refine pl_take (.agg #[.int .i64 (s.1 : Int), .int .i64 (s.2 : Int)]) rfl (by kernel_rfl) (by kernel_rfl) (by kernel_rfl) (ex_load rfl (by kernel_rfl) (ld26 (bO23_0.1) (bO23_1.1))) ?_
  refine pl_take (.int .i64 ((((pk30 : Nat) : Int)) - 4 : Int)) rfl (by kernel_rfl) (by kernel_rfl) (by kernel_rfl) (by kernel_rfl) ?_
  refine pl_take (.int .i64 (((((pk30 : Nat) : Int)) - 4) + 1 : Int)) rfl (by kernel_rfl) (by kernel_rfl) (by kernel_rfl) (ev_wrap (by kernel_rfl) (by omega) (by omega)) ?_
  refine pl_step rfl (by kernel_rfl) (by kernel_rfl) (by kernel_rfl) (sn_call (f := 17) (args := #[.agg #[.int .i64 (o.p : Int), .int .i64 (o.f : Int), .int .i64 (o.lo : Int), .int .i64 (o.hi : Int), .int .i64 (o.nd : Int), .int .i64 (o.tn : Int), .int .i64 (o.sl : Int)], .agg #[.int .i64 (s.1 : Int), .int .i64 (s.2 : Int)], .int .i64 (((((pk30 : Nat) : Int)) - 4) + 1 : Int)]) (by kernel_rfl) ((Strip_y (o := o) (s := s) (lk := ((((pk30 : Nat) : Int)) - 4) + 1) _ (Swath.shB_t.2 ⟨hok, ⟨by first | omega | (simp only []; omega), by first | omega | (simp only []; omega), by first | omega | (simp only []; omega), by first | omega | (simp only []; omega)⟩, by omega, by omega⟩)).mono ?_))
  rintro e w60 ⟨B51, g52, k53, k54, rfl, hn55, hn56, hne57, hr58, hr59, hb⟩
  replace hE := hE.trans hb
  replace hX50 := hX50.trans hb
  have hs61 := hb.size
  clear hb
  have lt62 := hr58.lt
  have lt63 := hr59.lt
  have hne57h := Lib.hid hne57
  refine ⟨_, rfl, ?_⟩
  refine pl_take (.tuple #[.agg #[.slice (some ⟨B51, 0, none⟩) 24 k53, .slice (some ⟨g52, 0, none⟩) 24 k54], .int .i64 0]) rfl (by kernel_rfl) (by kernel_rfl) (by kernel_rfl) (by kernel_rfl) ?_
  refine pl_take (.agg #[.slice (some ⟨B51, 0, none⟩) 24 k53, .slice (some ⟨g52, 0, none⟩) 24 k54]) rfl (by kernel_rfl) (by kernel_rfl) (by kernel_rfl) (by kernel_rfl) ?_
  refine pl_take (.int .i64 0) rfl (by kernel_rfl) (by kernel_rfl) (by kernel_rfl) (by kernel_rfl) ?_
  refine pl_step rfl (by kernel_rfl) (by kernel_rfl) (by kernel_rfl) (sn_new (us := #[.slice none 0 0, .slice none 0 0]) (t := 44) (by kernel_rfl) ?_)
  intro O64 X65 hO hOs hb hbx
  have hzO64 := hO; have hyO64 := hOs; clear hO hOs
  have bO64_0 : BoxAt X65 O64 0 (.slice none 0 0) := hbx 0 _ rfl
  have bO64_1 : BoxAt X65 O64 1 (.slice none 0 0) := hbx 1 _ rfl
  clear hbx
  replace hE := hE.trans hb
  replace hX50 := hX50.trans hb
  replace hr58 := hr58.ext hb
  replace hr59 := hr59.ext hb
  have hs66 := hb.size
  clear hb
  have lt67 := bO64_0.lt
  refine pl_put rfl (by kernel_rfl) (by kernel_rfl) (sn_set2 (O := O64) (j := 0) (v := .slice (some ⟨B51, 0, none⟩) 24 k53) (v' := .slice (some ⟨g52, 0, none⟩) 24 k54) (ex_store (p := .pointer (some ⟨O64, 0, none⟩)) (v := .agg #[.slice (some ⟨B51, 0, none⟩) 24 k53, .slice (some ⟨g52, 0, none⟩) 24 k54]) rfl (by kernel_rfl) (by kernel_rfl) (st44 bO64_0.1 bO64_0.2 bO64_1.1 bO64_1.2)) bO64_0 bO64_1 ?_)
  intro X68 ho hv0 hv1 hk
  replace hE := ho.ext hE (Nat.le_trans (Nat.le_trans hs3 (Nat.le_trans hs7 (Nat.le_trans hs11 (Nat.le_trans hs13 (Nat.le_trans hs16 (Nat.le_trans hs19 (Nat.le_trans hs22 (Nat.le_trans hs25 (Nat.le_trans hs28 (Nat.le_trans hs41 (Nat.le_trans hs46 (Nat.le_trans hs49 hs61)))))))))))) (Nat.le_of_eq hzO64))
  replace hX50 := ho.ext hX50 (Nat.le_trans hs61 (Nat.le_of_eq hzO64))
  replace hr58 := ho.rows (Nat.ne_of_gt (Nat.lt_of_lt_of_le lt62 (Nat.le_of_eq hzO64))) hr58
  replace hr59 := ho.rows (Nat.ne_of_gt (Nat.lt_of_lt_of_le lt63 (Nat.le_of_eq hzO64))) hr59
  have hs69 : X65.heap.size ≤ X68.heap.size := Nat.le_of_eq ho.size.symm
  clear ho hk bO64_0 bO64_1
  have bO64_0 := hv0; clear hv0
  have bO64_1 := hv1; clear hv1
  refine pl_take (.int .i64 0) rfl (by kernel_rfl) (by kernel_rfl) (by kernel_rfl) (by kernel_rfl) ?_
  refine pl_nil ?_
  refine qw_then ?_
  refine cw_clean [3, 9, 10, 11, 12, 13, 14, 15, 16] (ws' := [(3, .int .i64 (less : Int)), (9, .bool true), (10, .pointer (some ⟨O14, 0, none⟩)), (11, .pointer (some ⟨O23, 0, none⟩)), (12, .int .i64 ((((pk30 : Nat) : Int)) - 4 : Int)), (13, .pointer (some ⟨O44, 0, none⟩)), (14, .int .i64 0), (15, .pointer (some ⟨O64, 0, none⟩)), (16, .int .i64 0)]) (by kernel_rfl) (fun L => ?_)
  refine cw_seq ?_
  refine cw_seq ?_
  have hX70 : Ext X68 X68 := Ext.refl _
  refine cw_plain ?_
  refine pl_take (.int .i64 0) rfl (by kernel_rfl) (by kernel_rfl) (by kernel_rfl) (by kernel_rfl) ?_
  refine pl_take (.bool false) rfl (by kernel_rfl) (by kernel_rfl) (by kernel_rfl) (by kernel_rfl) ?_
  refine pl_take (.bool false) rfl (by kernel_rfl) (by kernel_rfl) (by kernel_rfl) (by kernel_rfl) ?_
  refine pl_take (.int .i64 0) rfl (by kernel_rfl) (by kernel_rfl) (by kernel_rfl) (by kernel_rfl) ?_
  refine pl_take (.bool false) rfl (by kernel_rfl) (by kernel_rfl) (by kernel_rfl) (by kernel_rfl) ?_
  refine pl_take (.bool false) rfl (by kernel_rfl) (by kernel_rfl) (by kernel_rfl) (by kernel_rfl) ?_
  refine pl_nil ?_
  refine qw_then ?_
  refine cw_clean [3, 9, 10, 11, 12, 13, 15, 54] (ws' := [(3, .int .i64 (less : Int)), (9, .bool true), (10, .pointer (some ⟨O14, 0, none⟩)), (11, .pointer (some ⟨O23, 0, none⟩)), (12, .int .i64 ((((pk30 : Nat) : Int)) - 4 : Int)), (13, .pointer (some ⟨O44, 0, none⟩)), (15, .pointer (some ⟨O64, 0, none⟩)), (54, .bool false)]) (by kernel_rfl) (fun L => ?_)
  refine cw_f (by kernel_rfl) ?_
  refine cw_skip ?_
  refine qw_then ?_
  refine cw_seq ?_
  refine cw_plain ?_
  refine pl_take (.pointer (some ⟨O44, 0, none⟩)) rfl (by kernel_rfl) (by kernel_rfl) (by kernel_rfl) (by kernel_rfl) ?_
  refine pl_take (.agg #[.slice (some ⟨B31, 0, none⟩) 24 k33]) rfl (by kernel_rfl) (by kernel_rfl) (by kernel_rfl) (ex_load rfl (by kernel_rfl) (ld31 ((BoxAt.ext (hX50.trans hX70) bO44_0).1))) ?_
  refine pl_step rfl (by kernel_rfl) (by kernel_rfl) (by kernel_rfl) (sn_call (f := 32) (args := #[.agg #[.slice (some ⟨B31, 0, none⟩) 24 k33], .int .i64 1]) (by kernel_rfl) ((Shifted_v _ 1 _ (RowsAt.va (hr38.ext (hX50.trans hX70)) (Swath.sure_valid hok _ _)) (Ext.refl _)).mono ?_))
  rintro e w76 ⟨B71, k74, rfl, hn72, hr73, hv75, hb⟩
  replace hE := hE.trans hb
  replace hX70 := hX70.trans hb
  have hs77 := hb.size
  clear hb
  have lt78 := hr73.lt
  clear hv75
  refine ⟨_, rfl, ?_⟩
  refine pl_take (.tuple #[.agg #[.slice (some ⟨B71, 0, none⟩) 24 k74], .int .i64 0]) rfl (by kernel_rfl) (by kernel_rfl) (by kernel_rfl) (by kernel_rfl) ?_
  refine pl_take (.agg #[.slice (some ⟨B71, 0, none⟩) 24 k74]) rfl (by kernel_rfl) (by kernel_rfl) (by kernel_rfl) (by kernel_rfl) ?_
  refine pl_take (.int .i64 0) rfl (by kernel_rfl) (by kernel_rfl) (by kernel_rfl) (by kernel_rfl) ?_
  refine pl_step rfl (by kernel_rfl) (by kernel_rfl) (by kernel_rfl) (sn_new (us := #[.slice none 0 0]) (t := 31) (by kernel_rfl) ?_)
  intro O79 X80 hO hOs hb hbx
  have hzO79 := hO; have hyO79 := hOs; clear hO hOs
  have bO79_0 : BoxAt X80 O79 0 (.slice none 0 0) := hbx 0 _ rfl
  clear hbx
  replace hE := hE.trans hb
  replace hX70 := hX70.trans hb
  replace hr73 := hr73.ext hb
  have hs81 := hb.size
  clear hb
  have lt82 := bO79_0.lt
  refine pl_put rfl (by kernel_rfl) (by kernel_rfl) (sn_set (O := O79) (j := 0) (v := .slice (some ⟨B71, 0, none⟩) 24 k74) (ex_store (p := .pointer (some ⟨O79, 0, none⟩)) (v := .agg #[.slice (some ⟨B71, 0, none⟩) 24 k74]) rfl (by kernel_rfl) (by kernel_rfl) (st31 bO79_0.1 bO79_0.2)) bO79_0 ?_)
  intro X83 ho hv0 hk
  replace hE := ho.ext hE (Nat.le_trans (Nat.le_trans hs3 (Nat.le_trans hs7 (Nat.le_trans hs11 (Nat.le_trans hs13 (Nat.le_trans hs16 (Nat.le_trans hs19 (Nat.le_trans hs22 (Nat.le_trans hs25 (Nat.le_trans hs28 (Nat.le_trans hs41 (Nat.le_trans hs46 (Nat.le_trans hs49 (Nat.le_trans hs61 (Nat.le_trans hs66 (Nat.le_trans hs69 hs77))))))))))))))) (Nat.le_of_eq hzO79))
  replace hX70 := ho.ext hX70 (Nat.le_trans hs77 (Nat.le_of_eq hzO79))
  replace hr73 := ho.rows (Nat.ne_of_gt (Nat.lt_of_lt_of_le lt78 (Nat.le_of_eq hzO79))) hr73
  have hs84 : X80.heap.size ≤ X83.heap.size := Nat.le_of_eq ho.size.symm
  clear ho hk bO79_0
  have bO79_0 := hv0; clear hv0
  refine pl_take (.int .i64 0) rfl (by kernel_rfl) (by kernel_rfl) (by kernel_rfl) (by kernel_rfl) ?_
  refine pl_nil ?_
  refine qw_then ?_
  refine cw_clean [3, 9, 10, 11, 12, 13, 15, 17, 18] (ws' := [(3, .int .i64 (less : Int)), (9, .bool true), (10, .pointer (some ⟨O14, 0, none⟩)), (11, .pointer (some ⟨O23, 0, none⟩)), (12, .int .i64 ((((pk30 : Nat) : Int)) - 4 : Int)), (13, .pointer (some ⟨O44, 0, none⟩)), (15, .pointer (some ⟨O64, 0, none⟩)), (17, .pointer (some ⟨O79, 0, none⟩)), (18, .int .i64 0)]) (by kernel_rfl) (fun L => ?_)
  refine cw_seq ?_
  refine cw_plain ?_
  refine pl_take (.pointer (some ⟨O44, 1, none⟩)) rfl (by kernel_rfl) (by kernel_rfl) (by kernel_rfl) (by kernel_rfl) ?_
  refine pl_take (.agg #[.slice (some ⟨g32, 0, none⟩) 24 k34]) rfl (by kernel_rfl) (by kernel_rfl) (by kernel_rfl) (ex_load rfl (by kernel_rfl) (ld31 ((BoxAt.ext (hX50.trans hX70) bO44_1).1))) ?_
  refine pl_step rfl (by kernel_rfl) (by kernel_rfl) (by kernel_rfl) (sn_call (f := 32) (args := #[.agg #[.slice (some ⟨g32, 0, none⟩) 24 k34], .int .i64 1]) (by kernel_rfl) ((Shifted_v _ 1 _ (RowsAt.va (hr39.ext (hX50.trans hX70)) (Swath.can_valid hok _ _)) (Ext.refl _)).mono ?_))
  rintro e w90 ⟨B85, k88, rfl, hn86, hr87, hv89, hb⟩
  replace hE := hE.trans hb
  replace hX70 := hX70.trans hb
  replace hr73 := hr73.ext hb
  replace bO79_0 := BoxAt.ext hb bO79_0
  have hs91 := hb.size
  clear hb
  have lt92 := hr87.lt
  clear hv89
  refine ⟨_, rfl, ?_⟩
  refine pl_take (.tuple #[.agg #[.slice (some ⟨B85, 0, none⟩) 24 k88], .int .i64 0]) rfl (by kernel_rfl) (by kernel_rfl) (by kernel_rfl) (by kernel_rfl) ?_
  refine pl_take (.agg #[.slice (some ⟨B85, 0, none⟩) 24 k88]) rfl (by kernel_rfl) (by kernel_rfl) (by kernel_rfl) (by kernel_rfl) ?_
  refine pl_take (.int .i64 0) rfl (by kernel_rfl) (by kernel_rfl) (by kernel_rfl) (by kernel_rfl) ?_
  refine pl_step rfl (by kernel_rfl) (by kernel_rfl) (by kernel_rfl) (sn_new (us := #[.slice none 0 0]) (t := 31) (by kernel_rfl) ?_)
  intro O93 X94 hO hOs hb hbx
  have hzO93 := hO; have hyO93 := hOs; clear hO hOs
  have bO93_0 : BoxAt X94 O93 0 (.slice none 0 0) := hbx 0 _ rfl
  clear hbx
  replace hE := hE.trans hb
  replace hX70 := hX70.trans hb
  replace hr73 := hr73.ext hb
  replace bO79_0 := BoxAt.ext hb bO79_0
  replace hr87 := hr87.ext hb
  have hs95 := hb.size
  clear hb
  have lt96 := bO93_0.lt
  refine pl_put rfl (by kernel_rfl) (by kernel_rfl) (sn_set (O := O93) (j := 0) (v := .slice (some ⟨B85, 0, none⟩) 24 k88) (ex_store (p := .pointer (some ⟨O93, 0, none⟩)) (v := .agg #[.slice (some ⟨B85, 0, none⟩) 24 k88]) rfl (by kernel_rfl) (by kernel_rfl) (st31 bO93_0.1 bO93_0.2)) bO93_0 ?_)
  intro X97 ho hv0 hk
  replace hE := ho.ext hE (Nat.le_trans (Nat.le_trans hs3 (Nat.le_trans hs7 (Nat.le_trans hs11 (Nat.le_trans hs13 (Nat.le_trans hs16 (Nat.le_trans hs19 (Nat.le_trans hs22 (Nat.le_trans hs25 (Nat.le_trans hs28 (Nat.le_trans hs41 (Nat.le_trans hs46 (Nat.le_trans hs49 (Nat.le_trans hs61 (Nat.le_trans hs66 (Nat.le_trans hs69 (Nat.le_trans hs77 (Nat.le_trans hs81 (Nat.le_trans hs84 hs91)))))))))))))))))) (Nat.le_of_eq hzO93))
  replace hX70 := ho.ext hX70 (Nat.le_trans (Nat.le_trans hs77 (Nat.le_trans hs81 (Nat.le_trans hs84 hs91))) (Nat.le_of_eq hzO93))
  replace hr73 := ho.rows (Nat.ne_of_gt (Nat.lt_of_lt_of_le lt78 (Nat.le_trans (Nat.le_trans hs81 (Nat.le_trans hs84 hs91)) (Nat.le_of_eq hzO93)))) hr73
  replace bO79_0 := ho.box (Nat.ne_of_gt (Nat.lt_of_lt_of_le lt82 (Nat.le_trans (Nat.le_trans hs84 hs91) (Nat.le_of_eq hzO93)))) bO79_0
  replace hr87 := ho.rows (Nat.ne_of_gt (Nat.lt_of_lt_of_le lt92 (Nat.le_of_eq hzO93))) hr87
  have hs98 : X94.heap.size ≤ X97.heap.size := Nat.le_of_eq ho.size.symm
  clear ho hk bO93_0
  have bO93_0 := hv0; clear hv0
  refine pl_take (.int .i64 0) rfl (by kernel_rfl) (by kernel_rfl) (by kernel_rfl) (by kernel_rfl) ?_
  refine pl_nil ?_
  refine qw_then ?_
  refine cw_clean [3, 9, 10, 11, 12, 13, 15, 17, 18, 19, 20] (ws' := [(3, .int .i64 (less : Int)), (9, .bool true), (10, .pointer (some ⟨O14, 0, none⟩)), (11, .pointer (some ⟨O23, 0, none⟩)), (12, .int .i64 ((((pk30 : Nat) : Int)) - 4 : Int)), (13, .pointer (some ⟨O44, 0, none⟩)), (15, .pointer (some ⟨O64, 0, none⟩)), (17, .pointer (some ⟨O79, 0, none⟩)), (18, .int .i64 0), (19, .pointer (some ⟨O93, 0, none⟩)), (20, .int .i64 0)]) (by kernel_rfl) (fun L => ?_)
  refine cw_seq ?_
  refine cw_seq ?_
  have hX99 : Ext X97 X97 := Ext.refl _
  refine cw_plain ?_
  refine pl_take (.int .i64 0) rfl (by kernel_rfl) (by kernel_rfl) (by kernel_rfl) (by kernel_rfl) ?_
  refine pl_take (.bool false) rfl (by kernel_rfl) (by kernel_rfl) (by kernel_rfl) (by kernel_rfl) ?_
  refine pl_take (.bool false) rfl (by kernel_rfl) (by kernel_rfl) (by kernel_rfl) (by kernel_rfl) ?_
  refine pl_take (.int .i64 0) rfl (by kernel_rfl) (by kernel_rfl) (by kernel_rfl) (by kernel_rfl) ?_
  refine pl_take (.bool false) rfl (by kernel_rfl) (by kernel_rfl) (by kernel_rfl) (by kernel_rfl) ?_
  refine pl_take (.bool false) rfl (by kernel_rfl) (by kernel_rfl) (by kernel_rfl) (by kernel_rfl) ?_
  refine pl_take (.bool false) rfl (by kernel_rfl) (by kernel_rfl) (by kernel_rfl) (by kernel_rfl) ?_
  refine pl_take (.agg #[.slice (some ⟨B51, 0, none⟩) 24 k53, .slice (some ⟨g52, 0, none⟩) 24 k54]) rfl (by kernel_rfl) (by kernel_rfl) (by kernel_rfl) (ex_load rfl (by kernel_rfl) (ld44 ((BoxAt.ext (hX70.trans hX99) bO64_0).1) ((BoxAt.ext (hX70.trans hX99) bO64_1).1))) ?_
  refine pl_take (.agg #[.slice (some ⟨B71, 0, none⟩) 24 k74]) rfl (by kernel_rfl) (by kernel_rfl) (by kernel_rfl) (ex_load rfl (by kernel_rfl) (ld31 (bO79_0.1))) ?_
  refine pl_take (.agg #[.slice (some ⟨B85, 0, none⟩) 24 k88]) rfl (by kernel_rfl) (by kernel_rfl) (by kernel_rfl) (ex_load rfl (by kernel_rfl) (ld31 (bO93_0.1))) ?_
  refine pl_take (.agg #[.slice (some ⟨B71, 0, none⟩) 24 k74, .slice (some ⟨B85, 0, none⟩) 24 k88]) rfl (by kernel_rfl) (by kernel_rfl) (by kernel_rfl) (by kernel_rfl) ?_
  refine pl_step rfl (by kernel_rfl) (by kernel_rfl) (by kernel_rfl) (sn_call (f := 21) (args := #[.agg #[.slice (some ⟨B51, 0, none⟩) 24 k53, .slice (some ⟨g52, 0, none⟩) 24 k54], .agg #[.slice (some ⟨B71, 0, none⟩) 24 k74, .slice (some ⟨B85, 0, none⟩) 24 k88]]) (by kernel_rfl) ((SameStrip_t _ (RowsAt.va (hr58.ext (hX70.trans hX99)) (Swath.sure_valid hok _ _)) (RowsAt.va (hr59.ext (hX70.trans hX99)) (Swath.can_valid hok _ _)) (RowsAt.va hr73 (Globe.shift_valid _ _)) (RowsAt.va hr87 (Globe.shift_valid _ _)) (by rw [show modN 1 = 1 from rfl]; exact Swath.looks_sure hok _ _) (by rw [show modN 1 = 1 from rfl]; exact Swath.looks_can hok _ _)).mono ?_))
  rintro e w100 ⟨rfl, hb⟩
  replace hE := hE.trans hb
  replace hX99 := hX99.trans hb
  have hs101 := hb.size
  clear hb
  refine ⟨_, rfl, ?_⟩
  refine pl_take (.bool false) rfl (by kernel_rfl) (by kernel_rfl) (by kernel_rfl) (by kernel_rfl) ?_
  refine pl_take (.bool false) rfl (by kernel_rfl) (by kernel_rfl) (by kernel_rfl) (by kernel_rfl) ?_
  refine pl_nil ?_
  refine qw_then ?_
  refine cw_clean [3, 9, 10, 11, 12, 13, 80] (ws' := [(3, .int .i64 (less : Int)), (9, .bool true), (10, .pointer (some ⟨O14, 0, none⟩)), (11, .pointer (some ⟨O23, 0, none⟩)), (12, .int .i64 ((((pk30 : Nat) : Int)) - 4 : Int)), (13, .pointer (some ⟨O44, 0, none⟩)), (80, .bool false)]) (by kernel_rfl) (fun L => ?_)
  refine cw_f (by kernel_rfl) ?_
  refine cw_skip ?_
  refine qw_then ?_
  refine cw_seq ?_
  refine cw_plain ?_
  have hY102 := hX50.trans hX70
  have hY103 := hX20.trans hY102
  refine pl_take (.agg #[.int .i64 (o.p : Int), .int .i64 (o.f : Int), .int .i64 (o.lo : Int), .int .i64 (o.hi : Int), .int .i64 (o.nd : Int), .int .i64 (o.tn : Int), .int .i64 (o.sl : Int)]) rfl (by kernel_rfl) (by kernel_rfl) (by kernel_rfl) (ex_load rfl (by kernel_rfl) (ld24 ((BoxAt.ext (hY103.trans hX99) bO14_0).1) ((BoxAt.ext (hY103.trans hX99) bO14_1).1) ((BoxAt.ext (hY103.trans hX99) bO14_2).1) ((BoxAt.ext (hY103.trans hX99) bO14_3).1) ((BoxAt.ext (hY103.trans hX99) bO14_4).1) ((BoxAt.ext (hY103.trans hX99) bO14_5).1) ((BoxAt.ext (hY103.trans hX99) bO14_6).1))) ?_
  refine pl_step rfl (by kernel_rfl) (by kernel_rfl) (by kernel_rfl) (sn_new (us := #[.int .i64 0, .int .i64 0, .int .i64 0, .int .i64 0, .int .i64 0, .int .i64 0, .int .i64 0]) (t := 24) (by kernel_rfl) ?_)
  intro O104 X105 hO hOs hb hbx
  have hzO104 := hO; have hyO104 := hOs; clear hO hOs
  have bO104_0 : BoxAt X105 O104 0 (.int .i64 0) := hbx 0 _ rfl
  have bO104_1 : BoxAt X105 O104 1 (.int .i64 0) := hbx 1 _ rfl
  have bO104_2 : BoxAt X105 O104 2 (.int .i64 0) := hbx 2 _ rfl
  have bO104_3 : BoxAt X105 O104 3 (.int .i64 0) := hbx 3 _ rfl
  have bO104_4 : BoxAt X105 O104 4 (.int .i64 0) := hbx 4 _ rfl
  have bO104_5 : BoxAt X105 O104 5 (.int .i64 0) := hbx 5 _ rfl
  have bO104_6 : BoxAt X105 O104 6 (.int .i64 0) := hbx 6 _ rfl
  clear hbx
  replace hE := hE.trans hb
  replace hX99 := hX99.trans hb
  have hs106 := hb.size
  clear hb
  have lt107 := bO104_0.lt
  refine pl_put rfl (by kernel_rfl) (by kernel_rfl) (sn_setK7 (O := O104) (j := 0) (v0 := .int .i64 (o.p : Int)) (v1 := .int .i64 (o.f : Int)) (v2 := .int .i64 (o.lo : Int)) (v3 := .int .i64 (o.hi : Int)) (v4 := .int .i64 (o.nd : Int)) (v5 := .int .i64 (o.tn : Int)) (v6 := .int .i64 (o.sl : Int)) (ex_store (p := .pointer (some ⟨O104, 0, none⟩)) (v := .agg #[.int .i64 (o.p : Int), .int .i64 (o.f : Int), .int .i64 (o.lo : Int), .int .i64 (o.hi : Int), .int .i64 (o.nd : Int), .int .i64 (o.tn : Int), .int .i64 (o.sl : Int)]) rfl (by kernel_rfl) (by kernel_rfl) (st24 bO104_0.1 bO104_0.2 bO104_1.1 bO104_1.2 bO104_2.1 bO104_2.2 bO104_3.1 bO104_3.2 bO104_4.1 bO104_4.2 bO104_5.1 bO104_5.2 bO104_6.1 bO104_6.2)) bO104_0 bO104_1 bO104_2 bO104_3 bO104_4 bO104_5 bO104_6 ?_)
  intro X108 ho hv0 hv1 hv2 hv3 hv4 hv5 hv6 hk
  replace hE := ho.ext hE (Nat.le_trans (Nat.le_trans hs3 (Nat.le_trans hs7 (Nat.le_trans hs11 (Nat.le_trans hs13 (Nat.le_trans hs16 (Nat.le_trans hs19 (Nat.le_trans hs22 (Nat.le_trans hs25 (Nat.le_trans hs28 (Nat.le_trans hs41 (Nat.le_trans hs46 (Nat.le_trans hs49 (Nat.le_trans hs61 (Nat.le_trans hs66 (Nat.le_trans hs69 (Nat.le_trans hs77 (Nat.le_trans hs81 (Nat.le_trans hs84 (Nat.le_trans hs91 (Nat.le_trans hs95 (Nat.le_trans hs98 hs101))))))))))))))))))))) (Nat.le_of_eq hzO104))
  replace hX99 := ho.ext hX99 (Nat.le_trans hs101 (Nat.le_of_eq hzO104))
  have hs109 : X105.heap.size ≤ X108.heap.size := Nat.le_of_eq ho.size.symm
  clear ho hk bO104_0 bO104_1 bO104_2 bO104_3 bO104_4 bO104_5 bO104_6
  have bO104_0 := hv0; clear hv0
  have bO104_1 := hv1; clear hv1
  have bO104_2 := hv2; clear hv2
  have bO104_3 := hv3; clear hv3
  have bO104_4 := hv4; clear hv4
  have bO104_5 := hv5; clear hv5
  have bO104_6 := hv6; clear hv6
  refine pl_nil ?_
  refine qw_then ?_
  refine cw_seq ?_
  have hX110 : Ext X108 X108 := Ext.refl _
  have hY111 := hX70.trans hX99
  have hY112 := hX50.trans hY111
  have hY113 := hX20.trans hY112
  refine cw_draw [(some 82, [10], []), (some 83, [82], [0]), (some 84, [3], []), (some 85, [10], []), (some 86, [85], [3]), (some 87, [86], [4]), (some 88, [84, 87], [2, 5]), (some 89, [83, 88], [1, 6]), (some 90, [21], [0, 1, 2, 3, 4, 5, 6, 7]), (none, [90, 89], [8, 7, 6, 0, 1, 2, 3, 4, 5, 6, 7])] (fun w' => w'.cell? ⟨O14, 6, none⟩ = some (.int .i64 (o.sl : Int))) (by kernel_rfl) (by kernel_rfl) (by kernel_rfl) (by kernel_rfl) ((calm_then calm_body)) ((BoxAt.ext (hY113.trans hX110) bO14_6).1) (fun ops Q X114 hb hL hR hK => ?_)
  replace hE := hE.trans hb
  replace hX110 := hX110.trans hb
  have hs115 := hb.size
  clear hb
  have hS116 := (BoxAt.ext (hY113.trans hX110) bO14_6).1
  refine wd_take 0 (.pointer (some ⟨O14, 6, none⟩)) hR rfl (by kernel_rfl) rfl (by kernel_rfl) (fun w _ => by kernel_rfl) (hS116) ?_
  refine wd_take 1 (.int .i64 (o.sl : Int)) hR rfl (by kernel_rfl) rfl (by kernel_rfl) (fun w hS => ex_load rfl (by kernel_rfl) (ld3 (hS))) (hS116) ?_
  refine wd_take 2 (.int .i64 (less : Int)) hR rfl (by kernel_rfl) rfl (by kernel_rfl) (fun w _ => by kernel_rfl) (hS116) ?_
  refine wd_take 3 (.pointer (some ⟨O14, 6, none⟩)) hR rfl (by kernel_rfl) rfl (by kernel_rfl) (fun w _ => by kernel_rfl) (hS116) ?_
  refine wd_take 4 (.int .i64 (o.sl : Int)) hR rfl (by kernel_rfl) rfl (by kernel_rfl) (fun w hS => ex_load rfl (by kernel_rfl) (ld3 (hS))) (hS116) ?_
  refine wd_take 5 (.int .i64 (o.sl + 1 : Int)) hR rfl (by kernel_rfl) rfl (by kernel_rfl) (fun w _ => ev_wrap (by kernel_rfl) (by omega) (by omega)) (hS116) ?_
  refine wd_step 6 hR rfl (by kernel_rfl) (by kernel_rfl) (by kernel_rfl) (sn_call (f := 13) (args := #[.int .i64 (less : Int), .int .i64 (o.sl + 1 : Int)]) (by kernel_rfl) ((pickL_i _ (o.sl + 1) _ iless (by omega) (by omega)).mono ?_))
  rintro e w' ⟨pk117, rfl, pk117l, pk117u, rfl⟩
  refine ⟨_, rfl, hS116, ?_⟩
  refine wd_take 7 (.int .i64 (o.sl - pk117 : Int)) hR rfl (by kernel_rfl) rfl (by kernel_rfl) (fun w _ => ev_wrap (by kernel_rfl) (by omega) (by omega)) (hS116) ?_
  refine wd_take 8 (.pointer (some ⟨O104, 6, none⟩)) hR rfl (by kernel_rfl) rfl (by kernel_rfl) (fun w _ => by kernel_rfl) (hS116) ?_
  have bO104_t119 := (BoxAt.ext hX110 bO104_0)
  have bO104_t120 := (BoxAt.ext hX110 bO104_1)
  have bO104_t121 := (BoxAt.ext hX110 bO104_2)
  have bO104_t122 := (BoxAt.ext hX110 bO104_3)
  have bO104_t123 := (BoxAt.ext hX110 bO104_4)
  have bO104_t124 := (BoxAt.ext hX110 bO104_5)
  have bO104_t125 := (BoxAt.ext hX110 bO104_6)
  have hX126 := (hX99.trans hX110)
  refine wd_step 9 hR rfl (by kernel_rfl) (by kernel_rfl) (by kernel_rfl) (sn_set (O := O104) (j := 6) (v := .int .i64 (o.sl - pk117 : Int)) (ex_store (p := .pointer (some ⟨O104, 6, none⟩)) (v := .int .i64 (o.sl - pk117 : Int)) rfl (by kernel_rfl) (by kernel_rfl) (st3 bO104_t125.1 bO104_t125.2)) bO104_t125 ?_)
  intro X118 ho hv0 hk
  replace hE := ho.ext hE (Nat.le_trans (Nat.le_trans hs3 (Nat.le_trans hs7 (Nat.le_trans hs11 (Nat.le_trans hs13 (Nat.le_trans hs16 (Nat.le_trans hs19 (Nat.le_trans hs22 (Nat.le_trans hs25 (Nat.le_trans hs28 (Nat.le_trans hs41 (Nat.le_trans hs46 (Nat.le_trans hs49 (Nat.le_trans hs61 (Nat.le_trans hs66 (Nat.le_trans hs69 (Nat.le_trans hs77 (Nat.le_trans hs81 (Nat.le_trans hs84 (Nat.le_trans hs91 (Nat.le_trans hs95 (Nat.le_trans hs98 hs101))))))))))))))))))))) (Nat.le_of_eq hzO104))
  replace hX126 := ho.ext hX126 (Nat.le_trans hs101 (Nat.le_of_eq hzO104))
  replace bO104_t119 := hk 0 _ (by omega) bO104_t119
  replace bO104_t120 := hk 1 _ (by omega) bO104_t120
  replace bO104_t121 := hk 2 _ (by omega) bO104_t121
  replace bO104_t122 := hk 3 _ (by omega) bO104_t122
  replace bO104_t123 := hk 4 _ (by omega) bO104_t123
  replace bO104_t124 := hk 5 _ (by omega) bO104_t124
  have hs127 : X114.heap.size ≤ X118.heap.size := Nat.le_of_eq ho.size.symm
  clear ho hk bO104_t125
  have bO104_t125 := hv0; clear hv0
  have hS128 := (BoxAt.ext (hY103.trans hX126) bO14_6).1
  refine ⟨hS128, ?_⟩
  refine wd_end hL hR hK (by kernel_rfl) ?_
  refine qw_then ?_
  refine cw_clean [9, 11, 12, 13, 21] (ws' := [(9, .bool true), (11, .pointer (some ⟨O23, 0, none⟩)), (12, .int .i64 ((((pk30 : Nat) : Int)) - 4 : Int)), (13, .pointer (some ⟨O44, 0, none⟩)), (21, .pointer (some ⟨O104, 0, none⟩))]) (by kernel_rfl) (fun L => ?_)
  refine cw_seq ?_
  have hok2 := Swath.slack_ok hok (m := o.sl - pk117) (by omega) (by omega)
  have hX129 : Ext X118 X118 := Ext.refl _
  refine cw_plain ?_
  refine pl_take (.agg #[.int .i64 (o.p : Int), .int .i64 (o.f : Int), .int .i64 (o.lo : Int), .int .i64 (o.hi : Int), .int .i64 (o.nd : Int), .int .i64 (o.tn : Int), .int .i64 (o.sl - pk117 : Int)]) rfl (by kernel_rfl) (by kernel_rfl) (by kernel_rfl) (ex_load rfl (by kernel_rfl) (ld24 (bO104_t119.1) (bO104_t120.1) (bO104_t121.1) (bO104_t122.1) (bO104_t123.1) (bO104_t124.1) (bO104_t125.1))) ?_
  have hY130 := hX70.trans hX126
  have hY131 := hX50.trans hY130
  refine pl_take (.agg #[.int .i64 (s.1 : Int), .int .i64 (s.2 : Int)]) rfl (by kernel_rfl) (by kernel_rfl) (by kernel_rfl) (ex_load rfl (by kernel_rfl) (ld26 ((BoxAt.ext (hY131.trans hX129) bO23_0).1) ((BoxAt.ext (hY131.trans hX129) bO23_1).1))) ?_
  refine pl_take (.int .i64 ((((pk30 : Nat) : Int)) - 4 : Int)) rfl (by kernel_rfl) (by kernel_rfl) (by kernel_rfl) (by kernel_rfl) ?_
  refine pl_step rfl (by kernel_rfl) (by kernel_rfl) (by kernel_rfl) (sn_call (f := 17) (args := #[.agg #[.int .i64 (o.p : Int), .int .i64 (o.f : Int), .int .i64 (o.lo : Int), .int .i64 (o.hi : Int), .int .i64 (o.nd : Int), .int .i64 (o.tn : Int), .int .i64 (o.sl - pk117 : Int)], .agg #[.int .i64 (s.1 : Int), .int .i64 (s.2 : Int)], .int .i64 ((((pk30 : Nat) : Int)) - 4 : Int)]) (by kernel_rfl) ((Strip_y (o := (Swath.slack o (o.sl - pk117))) (s := s) (lk := (((pk30 : Nat) : Int)) - 4) _ (Swath.shB_t.2 ⟨hok2, ⟨by first | omega | (simp only []; omega), by first | omega | (simp only []; omega), by first | omega | (simp only []; omega), by first | omega | (simp only []; omega)⟩, by omega, by omega⟩)).mono ?_))
  rintro e w141 ⟨B132, g133, k134, k135, rfl, hn136, hn137, hne138, hr139, hr140, hb⟩
  replace hE := hE.trans hb
  replace hX129 := hX129.trans hb
  have hs142 := hb.size
  clear hb
  have lt143 := hr139.lt
  have lt144 := hr140.lt
  have hne138h := Lib.hid hne138
  refine ⟨_, rfl, ?_⟩
  refine pl_take (.tuple #[.agg #[.slice (some ⟨B132, 0, none⟩) 24 k134, .slice (some ⟨g133, 0, none⟩) 24 k135], .int .i64 0]) rfl (by kernel_rfl) (by kernel_rfl) (by kernel_rfl) (by kernel_rfl) ?_
  refine pl_take (.agg #[.slice (some ⟨B132, 0, none⟩) 24 k134, .slice (some ⟨g133, 0, none⟩) 24 k135]) rfl (by kernel_rfl) (by kernel_rfl) (by kernel_rfl) (by kernel_rfl) ?_
  refine pl_take (.int .i64 0) rfl (by kernel_rfl) (by kernel_rfl) (by kernel_rfl) (by kernel_rfl) ?_
  refine pl_step rfl (by kernel_rfl) (by kernel_rfl) (by kernel_rfl) (sn_new (us := #[.slice none 0 0, .slice none 0 0]) (t := 44) (by kernel_rfl) ?_)
  intro O145 X146 hO hOs hb hbx
  have hzO145 := hO; have hyO145 := hOs; clear hO hOs
  have bO145_0 : BoxAt X146 O145 0 (.slice none 0 0) := hbx 0 _ rfl
  have bO145_1 : BoxAt X146 O145 1 (.slice none 0 0) := hbx 1 _ rfl
  clear hbx
  replace hE := hE.trans hb
  replace hX129 := hX129.trans hb
  replace hr139 := hr139.ext hb
  replace hr140 := hr140.ext hb
  have hs147 := hb.size
  clear hb
  have lt148 := bO145_0.lt
  refine pl_put rfl (by kernel_rfl) (by kernel_rfl) (sn_set2 (O := O145) (j := 0) (v := .slice (some ⟨B132, 0, none⟩) 24 k134) (v' := .slice (some ⟨g133, 0, none⟩) 24 k135) (ex_store (p := .pointer (some ⟨O145, 0, none⟩)) (v := .agg #[.slice (some ⟨B132, 0, none⟩) 24 k134, .slice (some ⟨g133, 0, none⟩) 24 k135]) rfl (by kernel_rfl) (by kernel_rfl) (st44 bO145_0.1 bO145_0.2 bO145_1.1 bO145_1.2)) bO145_0 bO145_1 ?_)
  intro X149 ho hv0 hv1 hk
  replace hE := ho.ext hE (Nat.le_trans (Nat.le_trans hs3 (Nat.le_trans hs7 (Nat.le_trans hs11 (Nat.le_trans hs13 (Nat.le_trans hs16 (Nat.le_trans hs19 (Nat.le_trans hs22 (Nat.le_trans hs25 (Nat.le_trans hs28 (Nat.le_trans hs41 (Nat.le_trans hs46 (Nat.le_trans hs49 (Nat.le_trans hs61 (Nat.le_trans hs66 (Nat.le_trans hs69 (Nat.le_trans hs77 (Nat.le_trans hs81 (Nat.le_trans hs84 (Nat.le_trans hs91 (Nat.le_trans hs95 (Nat.le_trans hs98 (Nat.le_trans hs101 (Nat.le_trans hs106 (Nat.le_trans hs109 (Nat.le_trans hs115 (Nat.le_trans hs127 hs142)))))))))))))))))))))))))) (Nat.le_of_eq hzO145))
  replace hX129 := ho.ext hX129 (Nat.le_trans hs142 (Nat.le_of_eq hzO145))
  replace hr139 := ho.rows (Nat.ne_of_gt (Nat.lt_of_lt_of_le lt143 (Nat.le_of_eq hzO145))) hr139
  replace hr140 := ho.rows (Nat.ne_of_gt (Nat.lt_of_lt_of_le lt144 (Nat.le_of_eq hzO145))) hr140
  have hs150 : X146.heap.size ≤ X149.heap.size := Nat.le_of_eq ho.size.symm
  clear ho hk bO145_0 bO145_1
  have bO145_0 := hv0; clear hv0
  have bO145_1 := hv1; clear hv1
  refine pl_take (.int .i64 0) rfl (by kernel_rfl) (by kernel_rfl) (by kernel_rfl) (by kernel_rfl) ?_
  refine pl_nil ?_
  refine qw_then ?_
  refine cw_seq ?_
  have hX151 : Ext X149 X149 := Ext.refl _
  refine cw_plain ?_
  refine pl_take (.bool true) rfl (by kernel_rfl) (by kernel_rfl) (by kernel_rfl) (by kernel_rfl) ?_
  refine pl_take (.bool true) rfl (by kernel_rfl) (by kernel_rfl) (by kernel_rfl) (by kernel_rfl) ?_
  refine pl_take (.int .i64 0) rfl (by kernel_rfl) (by kernel_rfl) (by kernel_rfl) (by kernel_rfl) ?_
  refine pl_take (.bool true) rfl (by kernel_rfl) (by kernel_rfl) (by kernel_rfl) (by kernel_rfl) ?_
  refine pl_take (.bool true) rfl (by kernel_rfl) (by kernel_rfl) (by kernel_rfl) (by kernel_rfl) ?_
  refine pl_take (.bool true) rfl (by kernel_rfl) (by kernel_rfl) (by kernel_rfl) (by kernel_rfl) ?_
  refine pl_take (.pointer (some ⟨O145, 0, none⟩)) rfl (by kernel_rfl) (by kernel_rfl) (by kernel_rfl) (by kernel_rfl) ?_
  refine pl_take (.agg #[.slice (some ⟨B132, 0, none⟩) 24 k134]) rfl (by kernel_rfl) (by kernel_rfl) (by kernel_rfl) (ex_load rfl (by kernel_rfl) (ld31 (bO145_0.1))) ?_
  refine pl_take (.pointer (some ⟨O44, 0, none⟩)) rfl (by kernel_rfl) (by kernel_rfl) (by kernel_rfl) (by kernel_rfl) ?_
  have hY152 := hX126.trans hX129
  have hY153 := hX70.trans hY152
  have hY154 := hX50.trans hY153
  refine pl_take (.agg #[.slice (some ⟨B31, 0, none⟩) 24 k33]) rfl (by kernel_rfl) (by kernel_rfl) (by kernel_rfl) (ex_load rfl (by kernel_rfl) (ld31 ((BoxAt.ext (hY154.trans hX151) bO44_0).1))) ?_
  refine pl_step rfl (by kernel_rfl) (by kernel_rfl) (by kernel_rfl) (sn_call (f := 31) (args := #[.agg #[.slice (some ⟨B132, 0, none⟩) 24 k134], .agg #[.slice (some ⟨B31, 0, none⟩) 24 k33]]) (by kernel_rfl) ((Contains_w (r := true) _ _ _ (RowsAt.va hr139 (Swath.sure_valid hok2 _ _)) (RowsAt.va (hr38.ext (hY154.trans hX151)) (Swath.sure_valid hok _ _)) (Swath.slack_sure hok _ _ (by omega) (by omega))).mono ?_))
  rintro e w155 ⟨rfl, hb⟩
  replace hE := hE.trans hb
  replace hX151 := hX151.trans hb
  have hs156 := hb.size
  clear hb
  refine ⟨_, rfl, ?_⟩
  refine pl_take (.bool true) rfl (by kernel_rfl) (by kernel_rfl) (by kernel_rfl) (by kernel_rfl) ?_
  refine pl_take (.bool true) rfl (by kernel_rfl) (by kernel_rfl) (by kernel_rfl) (by kernel_rfl) ?_
  refine pl_take (.pointer (some ⟨O44, 1, none⟩)) rfl (by kernel_rfl) (by kernel_rfl) (by kernel_rfl) (by kernel_rfl) ?_
  refine pl_take (.agg #[.slice (some ⟨g32, 0, none⟩) 24 k34]) rfl (by kernel_rfl) (by kernel_rfl) (by kernel_rfl) (ex_load rfl (by kernel_rfl) (ld31 ((BoxAt.ext (hY154.trans hX151) bO44_1).1))) ?_
  refine pl_take (.pointer (some ⟨O145, 1, none⟩)) rfl (by kernel_rfl) (by kernel_rfl) (by kernel_rfl) (by kernel_rfl) ?_
  refine pl_take (.agg #[.slice (some ⟨g133, 0, none⟩) 24 k135]) rfl (by kernel_rfl) (by kernel_rfl) (by kernel_rfl) (ex_load rfl (by kernel_rfl) (ld31 ((BoxAt.ext hX151 bO145_1).1))) ?_
  refine pl_step rfl (by kernel_rfl) (by kernel_rfl) (by kernel_rfl) (sn_call (f := 31) (args := #[.agg #[.slice (some ⟨g32, 0, none⟩) 24 k34], .agg #[.slice (some ⟨g133, 0, none⟩) 24 k135]]) (by kernel_rfl) ((Contains_w (r := true) _ _ _ (RowsAt.va (hr39.ext (hY154.trans hX151)) (Swath.can_valid hok _ _)) (RowsAt.va (hr140.ext hX151) (Swath.can_valid hok2 _ _)) (Swath.slack_can hok _ _ (by omega) (by omega))).mono ?_))
  rintro e w157 ⟨rfl, hb⟩
  replace hE := hE.trans hb
  replace hX151 := hX151.trans hb
  have hs158 := hb.size
  clear hb
  refine ⟨_, rfl, ?_⟩
  refine pl_take (.bool true) rfl (by kernel_rfl) (by kernel_rfl) (by kernel_rfl) (by kernel_rfl) ?_
  refine pl_take (.bool true) rfl (by kernel_rfl) (by kernel_rfl) (by kernel_rfl) (by kernel_rfl) ?_
  refine pl_take (.pointer (some ⟨O104, 6, none⟩)) rfl (by kernel_rfl) (by kernel_rfl) (by kernel_rfl) (by kernel_rfl) ?_
  refine pl_take (.int .i64 (o.sl - pk117 : Int)) rfl (by kernel_rfl) (by kernel_rfl) (by kernel_rfl) (ex_load rfl (by kernel_rfl) (ld3 ((BoxAt.ext (hX129.trans hX151) bO104_t125).1))) ?_
  by_cases hc159 : (o.sl - pk117 : Int) > (0 : Int)
  ·
    refine pl_take (.bool true) rfl (by kernel_rfl) (by kernel_rfl) (by kernel_rfl) (ev_dec (show _ = Result.ok (Next.value (Value.bool (decide ((o.sl - pk117 : Int) > (0 : Int))))) _ from by kernel_rfl) (hc159)) ?_
    refine pl_take (.bool true) rfl (by kernel_rfl) (by kernel_rfl) (by kernel_rfl) (by kernel_rfl) ?_
    refine pl_skip rfl (by kernel_rfl) (by kernel_rfl) (by kernel_rfl) ?_
    refine pl_skip rfl (by kernel_rfl) (by kernel_rfl) (by kernel_rfl) ?_
    refine pl_skip rfl (by kernel_rfl) (by kernel_rfl) (by kernel_rfl) ?_
    refine pl_skip rfl (by kernel_rfl) (by kernel_rfl) (by kernel_rfl) ?_
    refine pl_skip rfl (by kernel_rfl) (by kernel_rfl) (by kernel_rfl) ?_
    refine pl_take (.bool true) rfl (by kernel_rfl) (by kernel_rfl) (by kernel_rfl) (by kernel_rfl) ?_
    refine pl_take (.bool true) rfl (by kernel_rfl) (by kernel_rfl) (by kernel_rfl) (by kernel_rfl) ?_
    refine pl_take (.bool true) rfl (by kernel_rfl) (by kernel_rfl) (by kernel_rfl) (by kernel_rfl) ?_
    refine pl_nil ?_
    refine qw_then ?_
    refine cw_clean [8] (ws' := [(8, .bool true)]) (by kernel_rfl) (fun L => ?_)
    refine cw_ret ?_
    refine qw_ret [.bool true] rfl ⟨(by kernel_rfl), trivial⟩ ?_
    exact ⟨rfl, hE⟩
  ·
    refine pl_take (.bool false) rfl (by kernel_rfl) (by kernel_rfl) (by kernel_rfl) (ev_ndec (show _ = Result.ok (Next.value (Value.bool (decide ((o.sl - pk117 : Int) > (0 : Int))))) _ from by kernel_rfl) (hc159)) ?_
    refine pl_take (.bool false) rfl (by kernel_rfl) (by kernel_rfl) (by kernel_rfl) (by kernel_rfl) ?_
    refine pl_take (.pointer (some ⟨O145, 0, none⟩)) rfl (by kernel_rfl) (by kernel_rfl) (by kernel_rfl) (by kernel_rfl) ?_
    refine pl_take (.agg #[.slice (some ⟨B132, 0, none⟩) 24 k134]) rfl (by kernel_rfl) (by kernel_rfl) (by kernel_rfl) (ex_load rfl (by kernel_rfl) (ld31 ((BoxAt.ext hX151 bO145_0).1))) ?_
    refine pl_take (.pointer (some ⟨O145, 1, none⟩)) rfl (by kernel_rfl) (by kernel_rfl) (by kernel_rfl) (by kernel_rfl) ?_
    refine pl_take (.agg #[.slice (some ⟨g133, 0, none⟩) 24 k135]) rfl (by kernel_rfl) (by kernel_rfl) (by kernel_rfl) (ex_load rfl (by kernel_rfl) (ld31 ((BoxAt.ext hX151 bO145_1).1))) ?_
    refine pl_step rfl (by kernel_rfl) (by kernel_rfl) (by kernel_rfl) (sn_call (f := 16) (args := #[.agg #[.slice (some ⟨B132, 0, none⟩) 24 k134], .agg #[.slice (some ⟨g133, 0, none⟩) 24 k135]]) (by kernel_rfl) ((rSame_v (r := true) _ _ _ (RowsAt.va (hr139.ext hX151) (Swath.sure_valid hok2 _ _)) (RowsAt.va (hr140.ext hX151) (Swath.can_valid hok2 _ _)) (decide_eq_true (Swath.slack_none _ _ _ (show o.sl - pk117 = 0 by omega)))).mono ?_))
    rintro e w160 ⟨rfl, hb⟩
    replace hE := hE.trans hb
    replace hX151 := hX151.trans hb
    have hs161 := hb.size
    clear hb
    refine ⟨_, rfl, ?_⟩
    refine pl_take (.bool true) rfl (by kernel_rfl) (by kernel_rfl) (by kernel_rfl) (by kernel_rfl) ?_
    refine pl_take (.bool true) rfl (by kernel_rfl) (by kernel_rfl) (by kernel_rfl) (by kernel_rfl) ?_
    refine pl_take (.bool true) rfl (by kernel_rfl) (by kernel_rfl) (by kernel_rfl) (by kernel_rfl) ?_
    refine pl_nil ?_
    refine qw_then ?_
    refine cw_clean [8] (ws' := [(8, .bool true)]) (by kernel_rfl) (fun L => ?_)
    refine cw_ret ?_
    refine qw_ret [.bool true] rfl ⟨(by kernel_rfl), trivial⟩ ?_
    exact ⟨rfl, hE⟩
theorem SwathLooks_walk (v0 : Value) (op0 : Seven v0) (v1 : Value) (op1 : Pair v1) (lk : Int) (ilk : IsI lk) (less : Int) (iless : IsI less) (w : World) : Calls Try.prog 7 #[v0, v1, .int .i64 lk, .int .i64 less] w fun e w' => e = .returned (.bool true) ∧ Ext w w' := by
  obtain ⟨x0, x1, x2, x3, x4, x5, x6, rfl, ix0, ix1, ix2, ix3, ix4, ix5, ix6⟩ := op0
  obtain ⟨y0, y1, rfl, iy0, iy1⟩ := op1
  exact SwathLooks_w x0 x1 x2 x3 x4 x5 x6 y0 y1 lk less  ix0 ix1 ix2 ix3 ix4 ix5 ix6 iy0 iy1 ilk iless w

end Go.Proofs.Ytdjjkhefdalokaa

/- The statement SwathLooks: for every input the law returns true, and every argument reads as it read before; the two tables of package math/bits that the row lists are tied to the program's text. -/
namespace Go.Proofs.Ytdjjkhefdalokaa
open Go.ChangeShapes Go.WideShapes Go.ChangeAt Go.RowKit

set_option maxRecDepth 100000 in
theorem SwathLooks_lifted (os : Os) (started : os.Started) (H : Type) (enc : TypeId × Value → H) :
    ReturnsInHanded {} Try.checked os 7 .any (Rows.swathLooksSpec.pre6 enc Try.prog Try.f7 Rows.swathLooksRow.domain false)
      (Rows.swathLooksSpec.post enc Try.prog Try.f7 false true false false) := by
  refine returnsInHanded_of_change_sized (C := Try.checked) own started (by kernel_rfl) Try.func7
    (ChangeSpec.witness6 (enc := enc) (C := Try.checked) false ⟨#[], #[.agg #[.int .i64 0, .int .i64 0, .int .i64 0, .int .i64 0, .int .i64 0, .int .i64 0, .int .i64 0], .agg #[.int .i64 0, .int .i64 0], .int .i64 0, .int .i64 0], []⟩ 8 (by kernel_rfl) (by kernel_rfl) (by kernel_rfl) (by kernel_rfl)) ?_
  intro W base args ds gs before hval0 hW _ hsz _
  have hval : ∀ (j : Nat) t v, Try.f7.params[j]? = some t → args[j]? = some v → Value.okWide Try.prog W .any base t v := hval0
  have hW' := hW
  obtain ⟨p, q, hA0, hV, rfl, hfz, hnd⟩ := hW
  have hA : DataW.TrodAll enc Try.prog W 0 (fun _ => true) true Try.f7.params.toList args.toList ds p := hA0
  rw [Try.params7] at hA hval
  obtain ⟨v0, vs0, d0, ds0, p0, q0, hargs, rfl, rfl, h0, r0⟩ := trodAll_cons hA
  obtain ⟨v1, vs1, d1, ds1, p1, q1, rfl, rfl, rfl, h1, r1⟩ := trodAll_cons r0
  obtain ⟨v2, vs2, d2, ds2, p2, q2, rfl, rfl, rfl, h2, r2⟩ := trodAll_cons r1
  obtain ⟨v3, vs3, d3, ds3, p3, q3, rfl, rfl, rfl, h3, r3⟩ := trodAll_cons r2
  obtain ⟨rfl, rfl, rfl⟩ := trodAll_nil r3
  obtain rfl : args = #[v0, v1, v2, v3] := by cases args; simp_all
  obtain ⟨rfl, rfl⟩ := trodVars_none hV
  have k0 := h0
  have lt0 : ∀ x ∈ p0, x.block < W.heap.size := by obtain ⟨m, hm⟩ := k0; exact DataW.trod_lt m _ _ _ hm
  have op0 := open_seven (hval 0 _ v0 rfl rfl) h0
  have k1 := h1
  have lt1 : ∀ x ∈ p1, x.block < W.heap.size := by obtain ⟨m, hm⟩ := k1; exact DataW.trod_lt m _ _ _ hm
  have op1 := open_pair (hval 1 _ v1 rfl rfl) h1
  obtain ⟨a2, rfl, rfl, rfl, w2⟩ := open_int Try.underlying3 (hval 2 3 v2 rfl rfl) h2
  obtain ⟨a3, rfl, rfl, rfl, w3⟩ := open_int Try.underlying3 (hval 3 3 v3 rfl rfl) h3
  clear hA0 hval0
  refine (SwathLooks_walk v0 op0 v1 op1 a2 (isI_of_wf w2) a3 (isI_of_wf w3) W).mono fun e W' ⟨he, hE⟩ => ?_
  subst he
  have bel : Below W.heap.size W W' := hE
  exact ⟨_, rfl, _, _, _, [], _, [], hW', trodAll_mk1 (shut_bool Try.underlying4 _), (trodAll_cons_mk (Below.trod laidOut (by kernel_rfl) (of_decide_eq_true (by kernel_rfl)) k0 bel lt0) (trodAll_cons_mk (Below.trod laidOut (by kernel_rfl) (of_decide_eq_true (by kernel_rfl)) k1 bel lt1) (trodAll_cons_mk (shut_int Try.underlying3 w2) (trodAll_cons_mk (shut_int Try.underlying3 w3) trodAll_mk0)))), rfl, bel.frame _, fun h => by cases h⟩

theorem SwathLooks_over : Rows.SwathLooksSaid :=
  OpenClaim.holds_of_wide 7 Try.f7 rfl rfl rfl rfl rfl rfl rfl ⟨rfl, rfl, rfl, rfl, rfl⟩ rfl rfl rfl rfl rfl (by kernel_rfl) Try.func7 (by kernel_rfl)
    (of_decide_eq_true (by kernel_rfl)) (by unfold Func.isWrapper; first | (rw [if_pos (by decide +kernel)]; kernel_rfl) | (rw [if_neg (by decide +kernel)]; exact ⟨rfl, rfl⟩))
    (fun os started H enc _ => SwathLooks_lifted os started H enc)

theorem SwathLooks_holds : Rows.SwathLooksSaid := SwathLooks_over
#print axioms SwathLooks_holds
end Go.Proofs.Ytdjjkhefdalokaa
