/- The statement MemoryRoom: for every input that the row lists, the law returns true, and every argument reads as it read before. -/
import Derived.Test.YtnbjjddfcondlaaV5MemoryRoom
/- The walk of MemoryRoom. -/
namespace Go.Proofs.Ytnbjjddfcondlaa
open Go.RowKit

set_option maxRecDepth 1000000 in
set_option maxHeartbeats 4000000 in
theorem MemoryRoom_walk (w : World) (v0 : Value) (op0 : Tris w v0) (v1 : Value) (op1 : Three v1) (i2 : Int) (hi2 : IsI i2) (i3 : Int) (hi3 : IsI i3) : Calls Try.prog 8 #[v0, v1, .int .i64 i2, .int .i64 i3] w fun e w' => e = .returned (.bool true) ∧ Ext w w' := by
  obtain ⟨a0, n0, c0, q, rfl, hnc, hcm, hT⟩ := op0
  obtain ⟨u0, u1, u2, rfl, hu0, hu1, hu2⟩ := op1
  refine calls_cw 134 [(3, .int .i64 (i3 : Int)), (2, .int .i64 (i2 : Int)), (1, .agg #[.int .i64 (u0 : Int), .int .i64 (u1 : Int), .int .i64 (u2 : Int)]), (0, .slice a0 n0 c0)] Try.func8 rfl Try.ntmps8 (by kernel_rfl) (by kernel_rfl) (fun L => ?_)
  have hE : Ext w w := Ext.refl w
  refine cw_seq ?_
  refine cw_plain ?_
  refine pl_step rfl (by kernel_rfl) (by kernel_rfl) (by kernel_rfl) (sn_new (us := #[.int .i64 (u0 : Int), .int .i64 (u1 : Int), .int .i64 (u2 : Int)]) (t := 64) (by kernel_rfl) ?_)
  intro O5 X6 hO hOs hb hbx
  have hzO5 := hO; have hyO5 := hOs; clear hO hOs
  have bO5_0 : BoxAt X6 O5 0 (.int .i64 (u0 : Int)) := hbx 0 _ rfl
  have bO5_1 : BoxAt X6 O5 1 (.int .i64 (u1 : Int)) := hbx 1 _ rfl
  have bO5_2 : BoxAt X6 O5 2 (.int .i64 (u2 : Int)) := hbx 2 _ rfl
  clear hbx
  replace hE := hE.trans hb
  have hs7 := hb.size
  clear hb
  have lt8 := bO5_0.lt
  refine pl_take (.bool false) rfl (by kernel_rfl) (by kernel_rfl) (by kernel_rfl) (by kernel_rfl) ?_
  refine pl_nil ?_
  refine qw_then ?_
  refine cw_seq ?_
  refine cw_plain ?_
  refine pl_step rfl (by kernel_rfl) (by kernel_rfl) (by kernel_rfl) (sn_call (f := 10) (args := #[]) (by kernel_rfl) ((sane_c _).mono ?_))
  rintro e w9 ⟨rfl, hb⟩
  replace hE := hE.trans hb
  replace bO5_0 := BoxAt.ext hb bO5_0
  replace bO5_1 := BoxAt.ext hb bO5_1
  replace bO5_2 := BoxAt.ext hb bO5_2
  have hs10 := hb.size
  clear hb
  refine ⟨_, rfl, ?_⟩
  refine pl_take (.bool true) rfl (by kernel_rfl) (by kernel_rfl) (by kernel_rfl) (by kernel_rfl) ?_
  refine pl_nil ?_
  refine qw_then ?_
  refine cw_seq ?_
  refine cw_seq ?_
  refine cw_plain ?_
  refine pl_take (.bool true) rfl (by kernel_rfl) (by kernel_rfl) (by kernel_rfl) (by kernel_rfl) ?_
  refine pl_take (.bool false) rfl (by kernel_rfl) (by kernel_rfl) (by kernel_rfl) (by kernel_rfl) ?_
  refine pl_nil ?_
  refine qw_then ?_
  refine cw_f (by kernel_rfl) ?_
  refine cw_skip ?_
  refine qw_then ?_
  refine cw_seq ?_
  refine cw_plain ?_
  refine pl_take (.slice a0 n0 c0) rfl (by kernel_rfl) (by kernel_rfl) (by kernel_rfl) (by kernel_rfl) ?_
  refine pl_step rfl (by kernel_rfl) (by kernel_rfl) (by kernel_rfl) (sn_call (f := 11) (args := #[.slice a0 n0 c0]) (by kernel_rfl) ((Made_y _ _ hT hE).mono ?_))
  rintro e w11 ⟨a1, k1, c1, l, rfl, hk12, hkc, hLm, hok, hbd, him, hb⟩
  replace hE := hE.trans hb
  replace bO5_0 := BoxAt.ext hb bO5_0
  replace bO5_1 := BoxAt.ext hb bO5_1
  replace bO5_2 := BoxAt.ext hb bO5_2
  have hs12 := hb.size
  clear hb
  have hll := hLm.1; have hu := Mem.okL_u hok; have hf := Mem.okL_f hok
  have hX13 : Ext w11 w11 := Ext.refl _
  obtain ⟨bs, os, ha, hbl, hx⟩ := hLm.parts
  refine ⟨_, rfl, ?_⟩
  refine pl_take (.slice a1 k1 c1) rfl (by kernel_rfl) (by kernel_rfl) (by kernel_rfl) (by kernel_rfl) ?_
  refine pl_nil ?_
  refine qw_then ?_
  refine cw_seq ?_
  refine cw_plain ?_
  refine pl_take (.int .i64 (i2 : Int)) rfl (by kernel_rfl) (by kernel_rfl) (by kernel_rfl) (by kernel_rfl) ?_
  refine pl_step rfl (by kernel_rfl) (by kernel_rfl) (by kernel_rfl) (sn_call (f := 12) (args := #[.int .i64 (i2 : Int), .int .i64 300]) (by kernel_rfl) ((pickv_c i2 300 _ hi2 (by omega) (by omega)).mono ?_))
  rintro e w' ⟨pk14, rfl, hqpk14, rfl⟩
  refine ⟨_, rfl, ?_⟩
  refine pl_take (.int .i64 (pk14 : Int)) rfl (by kernel_rfl) (by kernel_rfl) (by kernel_rfl) (by kernel_rfl) ?_
  refine pl_nil ?_
  refine qw_then ?_
  refine cw_clean [3, 5, 9, 10, 11] (ws' := [(3, .int .i64 (i3 : Int)), (5, .pointer (some ⟨O5, 0, none⟩)), (9, .bool true), (10, .slice a1 k1 c1), (11, .int .i64 (pk14 : Int))]) (by kernel_rfl) (fun L => ?_)
  refine cw_seq ?_
  refine cw_plain ?_
  refine pl_take (.pointer (some ⟨O5, 0, none⟩)) rfl (by kernel_rfl) (by kernel_rfl) (by kernel_rfl) (by kernel_rfl) ?_
  refine pl_take (.int .i64 (u0 : Int)) rfl (by kernel_rfl) (by kernel_rfl) (by kernel_rfl) (ex_load rfl (by kernel_rfl) (ld3 (bO5_0.1))) ?_
  refine pl_step rfl (by kernel_rfl) (by kernel_rfl) (by kernel_rfl) (sn_call (f := 12) (args := #[.int .i64 (u0 : Int), .int .i64 160]) (by kernel_rfl) ((pickv_c u0 160 _ hu0 (by omega) (by omega)).mono ?_))
  rintro e w' ⟨pk15, rfl, hqpk15, rfl⟩
  refine ⟨_, rfl, ?_⟩
  refine pl_take (.agg #[.int .i64 (pk15 : Int), .int .i64 0]) rfl (by kernel_rfl) (by kernel_rfl) (by kernel_rfl) (by kernel_rfl) ?_
  refine pl_step rfl (by kernel_rfl) (by kernel_rfl) (by kernel_rfl) (sn_new (us := #[.int .i64 0, .int .i64 0]) (t := 24) (by kernel_rfl) ?_)
  intro O16 X17 hO hOs hb hbx
  have hzO16 := hO; have hyO16 := hOs; clear hO hOs
  have bO16_0 : BoxAt X17 O16 0 (.int .i64 0) := hbx 0 _ rfl
  have bO16_1 : BoxAt X17 O16 1 (.int .i64 0) := hbx 1 _ rfl
  clear hbx
  replace hE := hE.trans hb
  replace hX13 := hX13.trans hb
  replace bO5_0 := BoxAt.ext hb bO5_0
  replace bO5_1 := BoxAt.ext hb bO5_1
  replace bO5_2 := BoxAt.ext hb bO5_2
  have hs18 := hb.size
  clear hb
  have lt19 := bO16_0.lt
  refine pl_put rfl (by kernel_rfl) (by kernel_rfl) (sn_set2 (O := O16) (j := 0) (v := .int .i64 (pk15 : Int)) (v' := .int .i64 0) (ex_store (p := .pointer (some ⟨O16, 0, none⟩)) (v := .agg #[.int .i64 (pk15 : Int), .int .i64 0]) rfl (by kernel_rfl) (by kernel_rfl) (st24 bO16_0.1 bO16_0.2 bO16_1.1 bO16_1.2)) bO16_0 bO16_1 ?_)
  intro X20 ho hv0 hv1 hk
  replace hE := ho.ext hE (Nat.le_trans (Nat.le_trans hs7 (Nat.le_trans hs10 hs12)) (Nat.le_of_eq hzO16))
  replace hX13 := ho.ext hX13 (Nat.le_of_eq hzO16)
  replace bO5_0 := ho.box (Nat.ne_of_gt (Nat.lt_of_lt_of_le lt8 (Nat.le_trans (Nat.le_trans hs10 hs12) (Nat.le_of_eq hzO16)))) bO5_0
  replace bO5_1 := ho.box (Nat.ne_of_gt (Nat.lt_of_lt_of_le lt8 (Nat.le_trans (Nat.le_trans hs10 hs12) (Nat.le_of_eq hzO16)))) bO5_1
  replace bO5_2 := ho.box (Nat.ne_of_gt (Nat.lt_of_lt_of_le lt8 (Nat.le_trans (Nat.le_trans hs10 hs12) (Nat.le_of_eq hzO16)))) bO5_2
  have hs21 : X17.heap.size ≤ X20.heap.size := Nat.le_of_eq ho.size.symm
  clear ho hk bO16_0 bO16_1
  have bO16_0 := hv0; clear hv0
  have bO16_1 := hv1; clear hv1
  refine pl_nil ?_
  refine qw_then ?_
  refine cw_seq ?_
  refine cw_draw [(some 34, [12], []), (some 35, [34], [0]), (some 36, [35], [1]), (some 37, [5], []), (some 38, [37], [3]), (some 39, [38], [4]), (some 40, [36, 39], [2, 5]), (some 41, [12], [0, 1, 2, 3, 4, 5, 6]), (none, [41, 40], [7, 6, 5, 0, 1, 2, 3, 4, 5, 6])] (fun w' => w'.cell? ⟨O16, 0, none⟩ = some (.int .i64 (pk15 : Int)) ∧ w'.cell? ⟨O5, 1, none⟩ = some (.int .i64 (u1 : Int))) (by kernel_rfl) (by kernel_rfl) (by kernel_rfl) (by kernel_rfl) ((calm_then calm_body)) (⟨bO16_0.1, bO5_1.1⟩) (fun ops Q X22 hb hL hR hK => ?_)
  replace hE := hE.trans hb
  replace hX13 := hX13.trans hb
  replace bO5_0 := BoxAt.ext hb bO5_0
  replace bO5_1 := BoxAt.ext hb bO5_1
  replace bO5_2 := BoxAt.ext hb bO5_2
  replace bO16_0 := BoxAt.ext hb bO16_0
  replace bO16_1 := BoxAt.ext hb bO16_1
  have hs23 := hb.size
  clear hb
  refine wd_take 0 (.pointer (some ⟨O16, 0, none⟩)) hR rfl (by kernel_rfl) rfl (by kernel_rfl) (fun w _ => by kernel_rfl) (⟨bO16_0.1, bO5_1.1⟩) ?_
  refine wd_take 1 (.int .i64 (pk15 : Int)) hR rfl (by kernel_rfl) rfl (by kernel_rfl) (fun w hS => ex_load rfl (by kernel_rfl) (ld3 (hS.1))) (⟨bO16_0.1, bO5_1.1⟩) ?_
  refine wd_take 2 (.int .i64 (pk15 + 1 : Int)) hR rfl (by kernel_rfl) rfl (by kernel_rfl) (fun w _ => ev_wrap (by kernel_rfl) (by omega) (by omega)) (⟨bO16_0.1, bO5_1.1⟩) ?_
  refine wd_take 3 (.pointer (some ⟨O5, 1, none⟩)) hR rfl (by kernel_rfl) rfl (by kernel_rfl) (fun w _ => by kernel_rfl) (⟨bO16_0.1, bO5_1.1⟩) ?_
  refine wd_take 4 (.int .i64 (u1 : Int)) hR rfl (by kernel_rfl) rfl (by kernel_rfl) (fun w hS => ex_load rfl (by kernel_rfl) (ld3 (hS.2))) (⟨bO16_0.1, bO5_1.1⟩) ?_
  refine wd_step 5 hR rfl (by kernel_rfl) (by kernel_rfl) (by kernel_rfl) (sn_call (f := 12) (args := #[.int .i64 (u1 : Int), .int .i64 60]) (by kernel_rfl) ((pickv_c u1 60 _ hu1 (by omega) (by omega)).mono ?_))
  rintro e w' ⟨pk24, rfl, hqpk24, rfl⟩
  refine ⟨_, rfl, ⟨bO16_0.1, bO5_1.1⟩, ?_⟩
  refine wd_take 6 (.int .i64 ((pk15 + 1) + pk24 : Int)) hR rfl (by kernel_rfl) rfl (by kernel_rfl) (fun w _ => ev_wrap (by kernel_rfl) (by omega) (by omega)) (⟨bO16_0.1, bO5_1.1⟩) ?_
  refine wd_take 7 (.pointer (some ⟨O16, 1, none⟩)) hR rfl (by kernel_rfl) rfl (by kernel_rfl) (fun w _ => by kernel_rfl) (⟨bO16_0.1, bO5_1.1⟩) ?_
  refine wd_step 8 hR rfl (by kernel_rfl) (by kernel_rfl) (by kernel_rfl) (sn_set (O := O16) (j := 1) (v := .int .i64 ((pk15 + 1) + pk24 : Int)) (ex_store (p := .pointer (some ⟨O16, 1, none⟩)) (v := .int .i64 ((pk15 + 1) + pk24 : Int)) rfl (by kernel_rfl) (by kernel_rfl) (st3 bO16_1.1 bO16_1.2)) bO16_1 ?_)
  intro X25 ho hv0 hk
  replace hE := ho.ext hE (Nat.le_trans (Nat.le_trans hs7 (Nat.le_trans hs10 hs12)) (Nat.le_of_eq hzO16))
  replace hX13 := ho.ext hX13 (Nat.le_of_eq hzO16)
  replace bO5_0 := ho.box (Nat.ne_of_gt (Nat.lt_of_lt_of_le lt8 (Nat.le_trans (Nat.le_trans hs10 hs12) (Nat.le_of_eq hzO16)))) bO5_0
  replace bO5_1 := ho.box (Nat.ne_of_gt (Nat.lt_of_lt_of_le lt8 (Nat.le_trans (Nat.le_trans hs10 hs12) (Nat.le_of_eq hzO16)))) bO5_1
  replace bO5_2 := ho.box (Nat.ne_of_gt (Nat.lt_of_lt_of_le lt8 (Nat.le_trans (Nat.le_trans hs10 hs12) (Nat.le_of_eq hzO16)))) bO5_2
  replace bO16_0 := hk 0 _ (by omega) bO16_0
  have hs26 : X22.heap.size ≤ X25.heap.size := Nat.le_of_eq ho.size.symm
  clear ho hk bO16_1
  have bO16_1 := hv0; clear hv0
  refine ⟨⟨bO16_0.1, bO5_1.1⟩, ?_⟩
  refine wd_end hL hR hK (by kernel_rfl) ?_
  refine qw_then ?_
  refine cw_clean [3, 5, 9, 10, 11, 12] (ws' := [(3, .int .i64 (i3 : Int)), (5, .pointer (some ⟨O5, 0, none⟩)), (9, .bool true), (10, .slice a1 k1 c1), (11, .int .i64 (pk14 : Int)), (12, .pointer (some ⟨O16, 0, none⟩))]) (by kernel_rfl) (fun L => ?_)
  refine cw_seq ?_
  refine cw_plain ?_
  refine pl_take (.pointer (some ⟨O5, 2, none⟩)) rfl (by kernel_rfl) (by kernel_rfl) (by kernel_rfl) (by kernel_rfl) ?_
  refine pl_take (.int .i64 (u2 : Int)) rfl (by kernel_rfl) (by kernel_rfl) (by kernel_rfl) (ex_load rfl (by kernel_rfl) (ld3 (bO5_2.1))) ?_
  refine pl_step rfl (by kernel_rfl) (by kernel_rfl) (by kernel_rfl) (sn_call (f := 12) (args := #[.int .i64 (u2 : Int), .int .i64 120]) (by kernel_rfl) ((pickv_c u2 120 _ hu2 (by omega) (by omega)).mono ?_))
  rintro e w' ⟨pk27, rfl, hqpk27, rfl⟩
  refine ⟨_, rfl, ?_⟩
  refine pl_take (.int .i64 (1 + pk27 : Int)) rfl (by kernel_rfl) (by kernel_rfl) (by kernel_rfl) (ev_wrap (by kernel_rfl) (by omega) (by omega)) ?_
  refine pl_take (.int .i64 (1 + pk27 : Int)) rfl (by kernel_rfl) (by kernel_rfl) (by kernel_rfl) (by kernel_rfl) ?_
  refine pl_nil ?_
  refine qw_then ?_
  refine cw_seq ?_
  refine cw_plain ?_
  refine pl_take (.slice a1 k1 c1) rfl (by kernel_rfl) (by kernel_rfl) (by kernel_rfl) (by kernel_rfl) ?_
  refine pl_take (.int .i64 (pk14 : Int)) rfl (by kernel_rfl) (by kernel_rfl) (by kernel_rfl) (by kernel_rfl) ?_
  refine pl_take (.agg #[.int .i64 (pk15 : Int), .int .i64 ((pk15 + 1) + pk24 : Int)]) rfl (by kernel_rfl) (by kernel_rfl) (by kernel_rfl) (ex_load rfl (by kernel_rfl) (ld24 (bO16_0.1) (bO16_1.1))) ?_
  refine pl_step rfl (by kernel_rfl) (by kernel_rfl) (by kernel_rfl) (sn_call (f := 24) (args := #[.slice a1 k1 c1, .int .i64 (pk14 : Int), .agg #[.int .i64 (pk15 : Int), .int .i64 ((pk15 + 1) + pk24 : Int)]]) (by kernel_rfl) ((Room_y pk14 pk15 ((pk15 + 1) + pk24) _ _ hLm hX13 hok (by omega) (by omega) (by omega) (by omega) (by omega)).mono ?_))
  rintro e w30 ⟨r28, m29, rfl, hr28, htr28, hb⟩
  replace hE := hE.trans hb
  replace hX13 := hX13.trans hb
  replace bO5_0 := BoxAt.ext hb bO5_0
  replace bO5_1 := BoxAt.ext hb bO5_1
  replace bO5_2 := BoxAt.ext hb bO5_2
  replace bO16_0 := BoxAt.ext hb bO16_0
  replace bO16_1 := BoxAt.ext hb bO16_1
  have hs31 := hb.size
  clear hb
  refine ⟨_, rfl, ?_⟩
  refine pl_take (.tuple #[.int .i64 (r28 : Int), .int .i64 0]) rfl (by kernel_rfl) (by kernel_rfl) (by kernel_rfl) (by kernel_rfl) ?_
  refine pl_take (.int .i64 (r28 : Int)) rfl (by kernel_rfl) (by kernel_rfl) (by kernel_rfl) (by kernel_rfl) ?_
  refine pl_take (.int .i64 0) rfl (by kernel_rfl) (by kernel_rfl) (by kernel_rfl) (by kernel_rfl) ?_
  refine pl_take (.int .i64 (r28 : Int)) rfl (by kernel_rfl) (by kernel_rfl) (by kernel_rfl) (by kernel_rfl) ?_
  refine pl_take (.int .i64 0) rfl (by kernel_rfl) (by kernel_rfl) (by kernel_rfl) (by kernel_rfl) ?_
  refine pl_nil ?_
  refine qw_then ?_
  refine cw_clean [3, 9, 10, 11, 12, 13, 14, 15] (ws' := [(3, .int .i64 (i3 : Int)), (9, .bool true), (10, .slice a1 k1 c1), (11, .int .i64 (pk14 : Int)), (12, .pointer (some ⟨O16, 0, none⟩)), (13, .int .i64 (1 + pk27 : Int)), (14, .int .i64 (r28 : Int)), (15, .int .i64 0)]) (by kernel_rfl) (fun L => ?_)
  refine cw_seq ?_
  refine cw_plain ?_
  refine pl_take (.slice a1 k1 c1) rfl (by kernel_rfl) (by kernel_rfl) (by kernel_rfl) (by kernel_rfl) ?_
  refine pl_take (.int .i64 (pk14 : Int)) rfl (by kernel_rfl) (by kernel_rfl) (by kernel_rfl) (by kernel_rfl) ?_
  refine pl_step rfl (by kernel_rfl) (by kernel_rfl) (by kernel_rfl) (sn_call (f := 22) (args := #[.slice a1 k1 c1, .int .i64 (pk14 : Int)]) (by kernel_rfl) ((Over_y pk14 _ _ hLm hX13 hok (by omega) (by omega)).mono ?_))
  rintro e w33 ⟨ov32, rfl, hov32, hb⟩
  replace hE := hE.trans hb
  replace hX13 := hX13.trans hb
  replace bO5_0 := BoxAt.ext hb bO5_0
  replace bO5_1 := BoxAt.ext hb bO5_1
  replace bO5_2 := BoxAt.ext hb bO5_2
  replace bO16_0 := BoxAt.ext hb bO16_0
  replace bO16_1 := BoxAt.ext hb bO16_1
  have hs34 := hb.size
  clear hb
  refine ⟨_, rfl, ?_⟩
  refine pl_take (.tuple #[.int .i64 (ov32 : Int), .int .i64 0]) rfl (by kernel_rfl) (by kernel_rfl) (by kernel_rfl) (by kernel_rfl) ?_
  refine pl_take (.int .i64 (ov32 : Int)) rfl (by kernel_rfl) (by kernel_rfl) (by kernel_rfl) (by kernel_rfl) ?_
  refine pl_take (.int .i64 0) rfl (by kernel_rfl) (by kernel_rfl) (by kernel_rfl) (by kernel_rfl) ?_
  refine pl_take (.int .i64 (ov32 : Int)) rfl (by kernel_rfl) (by kernel_rfl) (by kernel_rfl) (by kernel_rfl) ?_
  refine pl_take (.int .i64 0) rfl (by kernel_rfl) (by kernel_rfl) (by kernel_rfl) (by kernel_rfl) ?_
  refine pl_nil ?_
  refine qw_then ?_
  refine cw_clean [3, 9, 10, 11, 12, 13, 14, 15, 16, 17] (ws' := [(3, .int .i64 (i3 : Int)), (9, .bool true), (10, .slice a1 k1 c1), (11, .int .i64 (pk14 : Int)), (12, .pointer (some ⟨O16, 0, none⟩)), (13, .int .i64 (1 + pk27 : Int)), (14, .int .i64 (r28 : Int)), (15, .int .i64 0), (16, .int .i64 (ov32 : Int)), (17, .int .i64 0)]) (by kernel_rfl) (fun L => ?_)
  refine cw_seq ?_
  refine cw_draw [(some 60, [10], []), (some 61, [11], []), (some 62, [12], []), (some 63, [62], [2]), (some 64, [12], []), (some 65, [64], [4]), (some 66, [65], [5]), (some 67, [3], []), (some 68, [12], []), (some 69, [68], [8]), (some 70, [12], []), (some 71, [70], [10]), (some 72, [69, 71], [9, 11]), (some 73, [67, 72], [7, 12]), (some 74, [66, 73], [6, 13]), (some 75, [63, 74], [3, 14]), (some 76, [60, 61, 75], [0, 1, 15, 13]), (some 59, [76], [16]), (some 77, [59], [17]), (some 78, [59], [17]), (some 18, [77], [18, 16, 0, 1, 2, 3, 4, 5, 6, 7, 8, 9, 10, 11, 12, 13, 14, 15, 16, 17, 18]), (some 19, [78], [19, 20, 0, 1, 2, 3, 4, 5, 6, 7, 8, 9, 10, 11, 12, 13, 14, 15, 16, 17, 18, 19, 20])] (fun w' => w'.cell? ⟨O16, 0, none⟩ = some (.int .i64 (pk15 : Int)) ∧ w'.cell? ⟨O16, 1, none⟩ = some (.int .i64 ((pk15 + 1) + pk24 : Int))) (by kernel_rfl) (by kernel_rfl) (by kernel_rfl) (by kernel_rfl) ((calm_then calm_body)) (⟨bO16_0.1, bO16_1.1⟩) (fun ops Q X35 hb hL hR hK => ?_)
  replace hE := hE.trans hb
  replace hX13 := hX13.trans hb
  replace bO5_0 := BoxAt.ext hb bO5_0
  replace bO5_1 := BoxAt.ext hb bO5_1
  replace bO5_2 := BoxAt.ext hb bO5_2
  replace bO16_0 := BoxAt.ext hb bO16_0
  replace bO16_1 := BoxAt.ext hb bO16_1
  have hs36 := hb.size
  clear hb
  refine wd_take 0 (.slice a1 k1 c1) hR rfl (by kernel_rfl) rfl (by kernel_rfl) (fun w _ => by kernel_rfl) (⟨bO16_0.1, bO16_1.1⟩) ?_
  refine wd_take 1 (.int .i64 (pk14 : Int)) hR rfl (by kernel_rfl) rfl (by kernel_rfl) (fun w _ => by kernel_rfl) (⟨bO16_0.1, bO16_1.1⟩) ?_
  refine wd_take 2 (.pointer (some ⟨O16, 0, none⟩)) hR rfl (by kernel_rfl) rfl (by kernel_rfl) (fun w _ => by kernel_rfl) (⟨bO16_0.1, bO16_1.1⟩) ?_
  refine wd_take 3 (.int .i64 (pk15 : Int)) hR rfl (by kernel_rfl) rfl (by kernel_rfl) (fun w hS => ex_load rfl (by kernel_rfl) (ld3 (hS.1))) (⟨bO16_0.1, bO16_1.1⟩) ?_
  refine wd_take 4 (.pointer (some ⟨O16, 0, none⟩)) hR rfl (by kernel_rfl) rfl (by kernel_rfl) (fun w _ => by kernel_rfl) (⟨bO16_0.1, bO16_1.1⟩) ?_
  refine wd_take 5 (.int .i64 (pk15 : Int)) hR rfl (by kernel_rfl) rfl (by kernel_rfl) (fun w hS => ex_load rfl (by kernel_rfl) (ld3 (hS.1))) (⟨bO16_0.1, bO16_1.1⟩) ?_
  refine wd_take 6 (.int .i64 (pk15 + 1 : Int)) hR rfl (by kernel_rfl) rfl (by kernel_rfl) (fun w _ => ev_wrap (by kernel_rfl) (by omega) (by omega)) (⟨bO16_0.1, bO16_1.1⟩) ?_
  refine wd_take 7 (.int .i64 (i3 : Int)) hR rfl (by kernel_rfl) rfl (by kernel_rfl) (fun w _ => by kernel_rfl) (⟨bO16_0.1, bO16_1.1⟩) ?_
  refine wd_take 8 (.pointer (some ⟨O16, 1, none⟩)) hR rfl (by kernel_rfl) rfl (by kernel_rfl) (fun w _ => by kernel_rfl) (⟨bO16_0.1, bO16_1.1⟩) ?_
  refine wd_take 9 (.int .i64 ((pk15 + 1) + pk24 : Int)) hR rfl (by kernel_rfl) rfl (by kernel_rfl) (fun w hS => ex_load rfl (by kernel_rfl) (ld3 (hS.2))) (⟨bO16_0.1, bO16_1.1⟩) ?_
  refine wd_take 10 (.pointer (some ⟨O16, 0, none⟩)) hR rfl (by kernel_rfl) rfl (by kernel_rfl) (fun w _ => by kernel_rfl) (⟨bO16_0.1, bO16_1.1⟩) ?_
  refine wd_take 11 (.int .i64 (pk15 : Int)) hR rfl (by kernel_rfl) rfl (by kernel_rfl) (fun w hS => ex_load rfl (by kernel_rfl) (ld3 (hS.1))) (⟨bO16_0.1, bO16_1.1⟩) ?_
  refine wd_take 12 (.int .i64 (((pk15 + 1) + pk24) - pk15 : Int)) hR rfl (by kernel_rfl) rfl (by kernel_rfl) (fun w _ => ev_wrap (by kernel_rfl) (by omega) (by omega)) (⟨bO16_0.1, bO16_1.1⟩) ?_
  refine wd_step 13 hR rfl (by kernel_rfl) (by kernel_rfl) (by kernel_rfl) (sn_call (f := 12) (args := #[.int .i64 (i3 : Int), .int .i64 (((pk15 + 1) + pk24) - pk15 : Int)]) (by kernel_rfl) ((pickv_c i3 (((pk15 + 1) + pk24) - pk15) _ hi3 (by omega) (by omega)).mono ?_))
  rintro e w' ⟨pk37, rfl, hqpk37, rfl⟩
  refine ⟨_, rfl, ⟨bO16_0.1, bO16_1.1⟩, ?_⟩
  refine wd_take 14 (.int .i64 ((pk15 + 1) + pk37 : Int)) hR rfl (by kernel_rfl) rfl (by kernel_rfl) (fun w _ => ev_wrap (by kernel_rfl) (by omega) (by omega)) (⟨bO16_0.1, bO16_1.1⟩) ?_
  refine wd_take 15 (.agg #[.int .i64 (pk15 : Int), .int .i64 ((pk15 + 1) + pk37 : Int)]) hR rfl (by kernel_rfl) rfl (by kernel_rfl) (fun w _ => by kernel_rfl) (⟨bO16_0.1, bO16_1.1⟩) ?_
  refine wd_step 16 hR rfl (by kernel_rfl) (by kernel_rfl) (by kernel_rfl) (sn_call (f := 24) (args := #[.slice a1 k1 c1, .int .i64 (pk14 : Int), .agg #[.int .i64 (pk15 : Int), .int .i64 ((pk15 + 1) + pk37 : Int)]]) (by kernel_rfl) ((Room_y pk14 pk15 ((pk15 + 1) + pk37) _ _ hLm hX13 hok (by omega) (by omega) (by omega) (by omega) (by omega)).mono ?_))
  rintro e w40 ⟨r38, m39, rfl, hr38, htr38, hb⟩
  replace hE := hE.trans hb
  replace hX13 := hX13.trans hb
  replace bO5_0 := BoxAt.ext hb bO5_0
  replace bO5_1 := BoxAt.ext hb bO5_1
  replace bO5_2 := BoxAt.ext hb bO5_2
  replace bO16_0 := BoxAt.ext hb bO16_0
  replace bO16_1 := BoxAt.ext hb bO16_1
  have hs41 := hb.size
  clear hb
  refine ⟨_, rfl, ⟨bO16_0.1, bO16_1.1⟩, ?_⟩
  refine wd_take 17 (.tuple #[.int .i64 (r38 : Int), .int .i64 0]) hR rfl (by kernel_rfl) rfl (by kernel_rfl) (fun w _ => by kernel_rfl) (⟨bO16_0.1, bO16_1.1⟩) ?_
  refine wd_take 18 (.int .i64 (r38 : Int)) hR rfl (by kernel_rfl) rfl (by kernel_rfl) (fun w _ => by kernel_rfl) (⟨bO16_0.1, bO16_1.1⟩) ?_
  refine wd_take 19 (.int .i64 0) hR rfl (by kernel_rfl) rfl (by kernel_rfl) (fun w _ => by kernel_rfl) (⟨bO16_0.1, bO16_1.1⟩) ?_
  refine wd_take 20 (.int .i64 (r38 : Int)) hR rfl (by kernel_rfl) rfl (by kernel_rfl) (fun w _ => by kernel_rfl) (⟨bO16_0.1, bO16_1.1⟩) ?_
  refine wd_take 21 (.int .i64 0) hR rfl (by kernel_rfl) rfl (by kernel_rfl) (fun w _ => by kernel_rfl) (⟨bO16_0.1, bO16_1.1⟩) ?_
  refine wd_end hL hR hK (by kernel_rfl) ?_
  refine qw_then ?_
  refine cw_clean [9, 10, 11, 12, 13, 14, 15, 16, 17, 18, 19] (ws' := [(9, .bool true), (10, .slice a1 k1 c1), (11, .int .i64 (pk14 : Int)), (12, .pointer (some ⟨O16, 0, none⟩)), (13, .int .i64 (1 + pk27 : Int)), (14, .int .i64 (r28 : Int)), (15, .int .i64 0), (16, .int .i64 (ov32 : Int)), (17, .int .i64 0), (18, .int .i64 (r38 : Int)), (19, .int .i64 0)]) (by kernel_rfl) (fun L => ?_)
  refine cw_seq ?_
  refine cw_join (fun ws' Y => ∃ O44 : Nat, ∃ O65 : Nat, ∃ g69 : Nat, ∃ cap70 : Nat, ws' = [(9, .bool true), (11, .int .i64 (pk14 : Int)), (13, .int .i64 (1 + pk27 : Int)), (14, .int .i64 (r28 : Int)), (15, .int .i64 0), (16, .int .i64 (ov32 : Int)), (17, .int .i64 0), (18, .int .i64 (r38 : Int)), (19, .int .i64 0), (20, .slice (some ⟨g69, 0, none⟩) (k1 + 1) cap70)] ∧ Ext w Y ∧ Ext w11 Y ∧ BoxAt Y O5 0 (.int .i64 (u0 : Int)) ∧ BoxAt Y O5 1 (.int .i64 (u1 : Int)) ∧ BoxAt Y O5 2 (.int .i64 (u2 : Int)) ∧ BoxAt Y O16 0 (.int .i64 (pk15 : Int)) ∧ BoxAt Y O16 1 (.int .i64 ((pk15 + 1) + pk24 : Int)) ∧ StsAt Y (some ⟨g69, 0, none⟩) (k1 + 1) (l ++ [⟨62, 1 + pk27, pk15, (pk15 + 1) + pk24⟩]) ∧ w40.heap.size ≤ Y.heap.size) (fun hJ => ?_) ?_
  ·
    refine cw_draw [(some 79, [], []), (some 80, [10], []), (some 81, [79, 80], [0, 1]), (some 82, [13], []), (some 83, [12], []), (some 84, [82, 83], [3, 4]), (some 85, [84], [5]), (some 86, [81, 85], [2, 6, 2]), (some 20, [86], [7, 7, 0, 1, 2, 3, 4, 5, 6, 7])] (fun w' => w'.cell? ⟨O16, 0, none⟩ = some (.int .i64 (pk15 : Int)) ∧ w'.cell? ⟨O16, 1, none⟩ = some (.int .i64 ((pk15 + 1) + pk24 : Int))) (by kernel_rfl) (by kernel_rfl) (by kernel_rfl) (by kernel_rfl) ((calm_then calm_body)) (⟨bO16_0.1, bO16_1.1⟩) (fun ops Q X42 hb hL hR hK => ?_)
    replace hE := hE.trans hb
    replace hX13 := hX13.trans hb
    replace bO5_0 := BoxAt.ext hb bO5_0
    replace bO5_1 := BoxAt.ext hb bO5_1
    replace bO5_2 := BoxAt.ext hb bO5_2
    replace bO16_0 := BoxAt.ext hb bO16_0
    replace bO16_1 := BoxAt.ext hb bO16_1
    have hs43 := hb.size
    clear hb
    refine wd_take 1 (.slice a1 k1 c1) hR rfl (by kernel_rfl) rfl (by kernel_rfl) (fun w _ => by kernel_rfl) (⟨bO16_0.1, bO16_1.1⟩) ?_
    refine wd_take 3 (.int .i64 (1 + pk27 : Int)) hR rfl (by kernel_rfl) rfl (by kernel_rfl) (fun w _ => by kernel_rfl) (⟨bO16_0.1, bO16_1.1⟩) ?_
    refine wd_take 4 (.agg #[.int .i64 (pk15 : Int), .int .i64 ((pk15 + 1) + pk24 : Int)]) hR rfl (by kernel_rfl) rfl (by kernel_rfl) (fun w hS => ex_load rfl (by kernel_rfl) (ld24 (hS.1) (hS.2))) (⟨bO16_0.1, bO16_1.1⟩) ?_
    refine wd_take 5 (.agg #[.int .i64 62, .int .i64 (1 + pk27 : Int), .int .i64 (pk15 : Int), .int .i64 ((pk15 + 1) + pk24 : Int)]) hR rfl (by kernel_rfl) rfl (by kernel_rfl) (fun w _ => by kernel_rfl) (⟨bO16_0.1, bO16_1.1⟩) ?_
    refine wd_two 0 6 hR rfl rfl (by kernel_rfl) (by kernel_rfl) (by kernel_rfl) (by kernel_rfl) ?_ ?_
    ·
      refine sn_newS0 (t := 26) (by kernel_rfl) ?_
      intro O44 X45 hO hOs hb hpO44
      have hzO44 := hO; have hyO44 : O44 < X45.heap.size := (by omega); clear hO hOs
      replace hE := hE.trans hb
      replace hX13 := hX13.trans hb
      replace bO5_0 := BoxAt.ext hb bO5_0
      replace bO5_1 := BoxAt.ext hb bO5_1
      replace bO5_2 := BoxAt.ext hb bO5_2
      replace bO16_0 := BoxAt.ext hb bO16_0
      replace bO16_1 := BoxAt.ext hb bO16_1
      have hs46 := hb.size
      clear hb
      refine ⟨⟨bO16_0.1, bO16_1.1⟩, ?_⟩
      have ow47 : OwnL stR O44 26 4 (.slice (some ⟨O44, 0, none⟩) 0 0) X45 [] := OwnL.empty stR hpO44 (Nat.le_refl _)
      have hbk48 := ow47.lt; have ow47l : ([] : List Mem.St).length = 0 := rfl
      refine wd_two 2 6 hR rfl rfl (by kernel_rfl) (by kernel_rfl) (by kernel_rfl) (by kernel_rfl) ?_ ?_
      ·
        have hl50 : (l).length = k1 := by first | omega | (rw [List.length_append]; omega)
        have hbs62 := ow47.base
        obtain ⟨g52, cap53, w54, hrun55, own56, hgr57, hgb58, hcap49, hor51⟩ := app_sts (c := c1) ow47 (Nat.le_of_lt (Nat.lt_of_lt_of_le hyO44 (Nat.le_refl _))) ow47l (Nat.le_refl 0) (hLm.ext hX13) (by omega)
        simp only [Nat.zero_add, List.nil_append] at hrun55 own56 hcap49
        refine sn_eff (v := .slice (some ⟨g52, 0, none⟩) k1 cap53) (w' := w54) (ex_append rfl (by kernel_rfl) (by kernel_rfl) hrun55) ?_
        replace bO5_0 := BoxAt.grownR bO5_0 hgb58 (own_not hbs62 (Nat.lt_of_lt_of_le lt8 (Nat.le_trans (Nat.le_trans hs10 (Nat.le_trans hs12 (Nat.le_trans hs18 (Nat.le_trans hs21 (Nat.le_trans hs23 (Nat.le_trans hs26 (Nat.le_trans hs31 (Nat.le_trans hs34 (Nat.le_trans hs36 (Nat.le_trans hs41 hs43)))))))))) (Nat.le_of_eq hzO44))))
        replace bO5_1 := BoxAt.grownR bO5_1 hgb58 (own_not hbs62 (Nat.lt_of_lt_of_le lt8 (Nat.le_trans (Nat.le_trans hs10 (Nat.le_trans hs12 (Nat.le_trans hs18 (Nat.le_trans hs21 (Nat.le_trans hs23 (Nat.le_trans hs26 (Nat.le_trans hs31 (Nat.le_trans hs34 (Nat.le_trans hs36 (Nat.le_trans hs41 hs43)))))))))) (Nat.le_of_eq hzO44))))
        replace bO5_2 := BoxAt.grownR bO5_2 hgb58 (own_not hbs62 (Nat.lt_of_lt_of_le lt8 (Nat.le_trans (Nat.le_trans hs10 (Nat.le_trans hs12 (Nat.le_trans hs18 (Nat.le_trans hs21 (Nat.le_trans hs23 (Nat.le_trans hs26 (Nat.le_trans hs31 (Nat.le_trans hs34 (Nat.le_trans hs36 (Nat.le_trans hs41 hs43)))))))))) (Nat.le_of_eq hzO44))))
        replace bO16_0 := BoxAt.grownR bO16_0 hgb58 (own_not hbs62 (Nat.lt_of_lt_of_le lt19 (Nat.le_trans (Nat.le_trans hs21 (Nat.le_trans hs23 (Nat.le_trans hs26 (Nat.le_trans hs31 (Nat.le_trans hs34 (Nat.le_trans hs36 (Nat.le_trans hs41 hs43))))))) (Nat.le_of_eq hzO44))))
        replace bO16_1 := BoxAt.grownR bO16_1 hgb58 (own_not hbs62 (Nat.lt_of_lt_of_le lt19 (Nat.le_trans (Nat.le_trans hs21 (Nat.le_trans hs23 (Nat.le_trans hs26 (Nat.le_trans hs31 (Nat.le_trans hs34 (Nat.le_trans hs36 (Nat.le_trans hs41 hs43))))))) (Nat.le_of_eq hzO44))))
        replace hE := hgr57.ext _ hE (Nat.le_trans (Nat.le_trans hs7 (Nat.le_trans hs10 (Nat.le_trans hs12 (Nat.le_trans hs18 (Nat.le_trans hs21 (Nat.le_trans hs23 (Nat.le_trans hs26 (Nat.le_trans hs31 (Nat.le_trans hs34 (Nat.le_trans hs36 (Nat.le_trans hs41 hs43))))))))))) (Nat.le_of_eq hzO44))
        replace hX13 := hgr57.ext _ hX13 (Nat.le_trans (Nat.le_trans hs18 (Nat.le_trans hs21 (Nat.le_trans hs23 (Nat.le_trans hs26 (Nat.le_trans hs31 (Nat.le_trans hs34 (Nat.le_trans hs36 (Nat.le_trans hs41 hs43)))))))) (Nat.le_of_eq hzO44))
        have hs59 := hgr57.size
        refine ⟨⟨bO16_0.1, bO16_1.1⟩, ?_⟩
        have hl60 := own56.base g52 rfl; have hh61 := own56.lt g52 rfl
        have hbk64 := own56.lt
        refine wd_step 6 hR rfl (by kernel_rfl) (by kernel_rfl) (by kernel_rfl) (sn_newS (us := #[.int .i64 62, .int .i64 (1 + pk27 : Int), .int .i64 (pk15 : Int), .int .i64 ((pk15 + 1) + pk24 : Int)]) (t := 26) (k := 1) (c := 1) (by kernel_rfl) ?_)
        intro O65 X66 hO hOs hb hbx
        have hzO65 := hO; have hyO65 := hOs; clear hO hOs
        have bO65_0 : BoxAt X66 O65 0 (.int .i64 62) := hbx 0 _ rfl
        have bO65_1 : BoxAt X66 O65 1 (.int .i64 (1 + pk27 : Int)) := hbx 1 _ rfl
        have bO65_2 : BoxAt X66 O65 2 (.int .i64 (pk15 : Int)) := hbx 2 _ rfl
        have bO65_3 : BoxAt X66 O65 3 (.int .i64 ((pk15 + 1) + pk24 : Int)) := hbx 3 _ rfl
        clear hbx
        replace hE := hE.trans hb
        replace hX13 := hX13.trans hb
        replace bO5_0 := BoxAt.ext hb bO5_0
        replace bO5_1 := BoxAt.ext hb bO5_1
        replace bO5_2 := BoxAt.ext hb bO5_2
        replace bO16_0 := BoxAt.ext hb bO16_0
        replace bO16_1 := BoxAt.ext hb bO16_1
        replace own56 := own56.ext hb
        have hs67 := hb.size
        clear hb
        have lt68 := bO65_0.lt
        refine ⟨⟨bO16_0.1, bO16_1.1⟩, ?_⟩
        have hbs79 := own56.base
        obtain ⟨g69, cap70, w71, hrun72, own73, hgr74, hgb75⟩ := own_app1k (P := Try.prog) (ty := 27) stT (own56) (Nat.le_of_lt (Nat.lt_of_lt_of_le hyO44 (Nat.le_trans hs59 hs67))) (k := k1) hl50 (O := O65) (c := 1) (x := (⟨62, 1 + pk27, pk15, (pk15 + 1) + pk24⟩ : Mem.St)) (d := [.int .i64 62, .int .i64 (1 + pk27 : Int), .int .i64 (pk15 : Int), .int .i64 ((pk15 + 1) + pk24 : Int)]) (F := []) rfl (cells4 (bO65_0.1) (bO65_1.1) (bO65_2.1) (bO65_3.1)) (by simp [Value.oneCell']) (⟨rfl, rfl⟩) (fun b hb => by cases hb) (by omega) (by omega)
        refine wd_step 7 hR rfl (by kernel_rfl) (by kernel_rfl) (by kernel_rfl) (sn_eff (v := .slice (some ⟨g69, 0, none⟩) (k1 + 1) cap70) (w' := w71) (ex_append rfl (by kernel_rfl) (by kernel_rfl) hrun72) ?_)
        replace bO5_0 := BoxAt.grownR bO5_0 hgb75 (own_not hbs79 (Nat.lt_of_lt_of_le lt8 (Nat.le_trans (Nat.le_trans hs10 (Nat.le_trans hs12 (Nat.le_trans hs18 (Nat.le_trans hs21 (Nat.le_trans hs23 (Nat.le_trans hs26 (Nat.le_trans hs31 (Nat.le_trans hs34 (Nat.le_trans hs36 (Nat.le_trans hs41 hs43)))))))))) (Nat.le_of_eq hzO44))))
        replace bO5_1 := BoxAt.grownR bO5_1 hgb75 (own_not hbs79 (Nat.lt_of_lt_of_le lt8 (Nat.le_trans (Nat.le_trans hs10 (Nat.le_trans hs12 (Nat.le_trans hs18 (Nat.le_trans hs21 (Nat.le_trans hs23 (Nat.le_trans hs26 (Nat.le_trans hs31 (Nat.le_trans hs34 (Nat.le_trans hs36 (Nat.le_trans hs41 hs43)))))))))) (Nat.le_of_eq hzO44))))
        replace bO5_2 := BoxAt.grownR bO5_2 hgb75 (own_not hbs79 (Nat.lt_of_lt_of_le lt8 (Nat.le_trans (Nat.le_trans hs10 (Nat.le_trans hs12 (Nat.le_trans hs18 (Nat.le_trans hs21 (Nat.le_trans hs23 (Nat.le_trans hs26 (Nat.le_trans hs31 (Nat.le_trans hs34 (Nat.le_trans hs36 (Nat.le_trans hs41 hs43)))))))))) (Nat.le_of_eq hzO44))))
        replace bO16_0 := BoxAt.grownR bO16_0 hgb75 (own_not hbs79 (Nat.lt_of_lt_of_le lt19 (Nat.le_trans (Nat.le_trans hs21 (Nat.le_trans hs23 (Nat.le_trans hs26 (Nat.le_trans hs31 (Nat.le_trans hs34 (Nat.le_trans hs36 (Nat.le_trans hs41 hs43))))))) (Nat.le_of_eq hzO44))))
        replace bO16_1 := BoxAt.grownR bO16_1 hgb75 (own_not hbs79 (Nat.lt_of_lt_of_le lt19 (Nat.le_trans (Nat.le_trans hs21 (Nat.le_trans hs23 (Nat.le_trans hs26 (Nat.le_trans hs31 (Nat.le_trans hs34 (Nat.le_trans hs36 (Nat.le_trans hs41 hs43))))))) (Nat.le_of_eq hzO44))))
        replace bO65_0 := BoxAt.grownR bO65_0 hgb75 (fun e => absurd (Option.some.inj e) (Nat.ne_of_lt (Nat.lt_of_lt_of_le hh61 (Nat.le_of_eq hzO65))))
        replace bO65_1 := BoxAt.grownR bO65_1 hgb75 (fun e => absurd (Option.some.inj e) (Nat.ne_of_lt (Nat.lt_of_lt_of_le hh61 (Nat.le_of_eq hzO65))))
        replace bO65_2 := BoxAt.grownR bO65_2 hgb75 (fun e => absurd (Option.some.inj e) (Nat.ne_of_lt (Nat.lt_of_lt_of_le hh61 (Nat.le_of_eq hzO65))))
        replace bO65_3 := BoxAt.grownR bO65_3 hgb75 (fun e => absurd (Option.some.inj e) (Nat.ne_of_lt (Nat.lt_of_lt_of_le hh61 (Nat.le_of_eq hzO65))))
        replace hE := hgr74.ext _ hE (Nat.le_trans (Nat.le_trans hs7 (Nat.le_trans hs10 (Nat.le_trans hs12 (Nat.le_trans hs18 (Nat.le_trans hs21 (Nat.le_trans hs23 (Nat.le_trans hs26 (Nat.le_trans hs31 (Nat.le_trans hs34 (Nat.le_trans hs36 (Nat.le_trans hs41 hs43))))))))))) (Nat.le_of_eq hzO44))
        replace hX13 := hgr74.ext _ hX13 (Nat.le_trans (Nat.le_trans hs18 (Nat.le_trans hs21 (Nat.le_trans hs23 (Nat.le_trans hs26 (Nat.le_trans hs31 (Nat.le_trans hs34 (Nat.le_trans hs36 (Nat.le_trans hs41 hs43)))))))) (Nat.le_of_eq hzO44))
        have hs76 := hgr74.size
        refine ⟨⟨bO16_0.1, bO16_1.1⟩, ?_⟩
        have hl77 := own73.base g69 rfl; have hh78 := own73.lt g69 rfl
        refine wd_take 8 (.slice (some ⟨g69, 0, none⟩) (k1 + 1) cap70) hR rfl (by kernel_rfl) rfl (by kernel_rfl) (fun w _ => by kernel_rfl) (⟨bO16_0.1, bO16_1.1⟩) ?_
        refine wd_end hL hR hK (by kernel_rfl) ?_
        have hM81 : StsAt w71 (some ⟨g69, 0, none⟩) (k1 + 1) (l ++ [⟨62, 1 + pk27, pk15, (pk15 + 1) + pk24⟩]) := own_sts own73 (by rw [List.length_append]; simp; omega) (by omega)
        have hX82 : Ext w71 w71 := Ext.refl _
        exact qw_leaf hJ [9, 11, 13, 14, 15, 16, 17, 18, 19, 20] (ws' := [(9, .bool true), (11, .int .i64 (pk14 : Int)), (13, .int .i64 (1 + pk27 : Int)), (14, .int .i64 (r28 : Int)), (15, .int .i64 0), (16, .int .i64 (ov32 : Int)), (17, .int .i64 0), (18, .int .i64 (r38 : Int)), (19, .int .i64 0), (20, .slice (some ⟨g69, 0, none⟩) (k1 + 1) cap70)]) (by kernel_rfl) ⟨O44, O65, g69, cap70, rfl, hE, hX13, bO5_0, bO5_1, bO5_2, bO16_0, bO16_1, hM81, (Nat.le_trans hs43 (Nat.le_trans hs46 (Nat.le_trans hs59 (Nat.le_trans hs67 hs76))))⟩
      ·
        refine sn_newS (us := #[.int .i64 62, .int .i64 (1 + pk27 : Int), .int .i64 (pk15 : Int), .int .i64 ((pk15 + 1) + pk24 : Int)]) (t := 26) (k := 1) (c := 1) (by kernel_rfl) ?_
        intro O83 X84 hO hOs hb hbx
        have hzO83 := hO; have hyO83 := hOs; clear hO hOs
        have bO83_0 : BoxAt X84 O83 0 (.int .i64 62) := hbx 0 _ rfl
        have bO83_1 : BoxAt X84 O83 1 (.int .i64 (1 + pk27 : Int)) := hbx 1 _ rfl
        have bO83_2 : BoxAt X84 O83 2 (.int .i64 (pk15 : Int)) := hbx 2 _ rfl
        have bO83_3 : BoxAt X84 O83 3 (.int .i64 ((pk15 + 1) + pk24 : Int)) := hbx 3 _ rfl
        clear hbx
        replace hE := hE.trans hb
        replace hX13 := hX13.trans hb
        replace bO5_0 := BoxAt.ext hb bO5_0
        replace bO5_1 := BoxAt.ext hb bO5_1
        replace bO5_2 := BoxAt.ext hb bO5_2
        replace bO16_0 := BoxAt.ext hb bO16_0
        replace bO16_1 := BoxAt.ext hb bO16_1
        replace ow47 := ow47.ext hb
        have hs85 := hb.size
        clear hb
        have lt86 := bO83_0.lt
        refine ⟨⟨bO16_0.1, bO16_1.1⟩, ?_⟩
        have hl88 : (l).length = k1 := by first | omega | (rw [List.length_append]; omega)
        have hbs100 := ow47.base
        obtain ⟨g90, cap91, w92, hrun93, own94, hgr95, hgb96, hcap87, hor89⟩ := app_sts (c := c1) ow47 (Nat.le_of_lt (Nat.lt_of_lt_of_le hyO44 hs85)) ow47l (Nat.le_refl 0) (hLm.ext hX13) (by omega)
        simp only [Nat.zero_add, List.nil_append] at hrun93 own94 hcap87
        refine wd_step 2 hR rfl (by kernel_rfl) (by kernel_rfl) (by kernel_rfl) (sn_eff (v := .slice (some ⟨g90, 0, none⟩) k1 cap91) (w' := w92) (ex_append rfl (by kernel_rfl) (by kernel_rfl) hrun93) ?_)
        replace bO5_0 := BoxAt.grownR bO5_0 hgb96 (own_not hbs100 (Nat.lt_of_lt_of_le lt8 (Nat.le_trans (Nat.le_trans hs10 (Nat.le_trans hs12 (Nat.le_trans hs18 (Nat.le_trans hs21 (Nat.le_trans hs23 (Nat.le_trans hs26 (Nat.le_trans hs31 (Nat.le_trans hs34 (Nat.le_trans hs36 (Nat.le_trans hs41 hs43)))))))))) (Nat.le_of_eq hzO44))))
        replace bO5_1 := BoxAt.grownR bO5_1 hgb96 (own_not hbs100 (Nat.lt_of_lt_of_le lt8 (Nat.le_trans (Nat.le_trans hs10 (Nat.le_trans hs12 (Nat.le_trans hs18 (Nat.le_trans hs21 (Nat.le_trans hs23 (Nat.le_trans hs26 (Nat.le_trans hs31 (Nat.le_trans hs34 (Nat.le_trans hs36 (Nat.le_trans hs41 hs43)))))))))) (Nat.le_of_eq hzO44))))
        replace bO5_2 := BoxAt.grownR bO5_2 hgb96 (own_not hbs100 (Nat.lt_of_lt_of_le lt8 (Nat.le_trans (Nat.le_trans hs10 (Nat.le_trans hs12 (Nat.le_trans hs18 (Nat.le_trans hs21 (Nat.le_trans hs23 (Nat.le_trans hs26 (Nat.le_trans hs31 (Nat.le_trans hs34 (Nat.le_trans hs36 (Nat.le_trans hs41 hs43)))))))))) (Nat.le_of_eq hzO44))))
        replace bO16_0 := BoxAt.grownR bO16_0 hgb96 (own_not hbs100 (Nat.lt_of_lt_of_le lt19 (Nat.le_trans (Nat.le_trans hs21 (Nat.le_trans hs23 (Nat.le_trans hs26 (Nat.le_trans hs31 (Nat.le_trans hs34 (Nat.le_trans hs36 (Nat.le_trans hs41 hs43))))))) (Nat.le_of_eq hzO44))))
        replace bO16_1 := BoxAt.grownR bO16_1 hgb96 (own_not hbs100 (Nat.lt_of_lt_of_le lt19 (Nat.le_trans (Nat.le_trans hs21 (Nat.le_trans hs23 (Nat.le_trans hs26 (Nat.le_trans hs31 (Nat.le_trans hs34 (Nat.le_trans hs36 (Nat.le_trans hs41 hs43))))))) (Nat.le_of_eq hzO44))))
        replace bO83_0 := BoxAt.grownR bO83_0 hgb96 (fun e => absurd (Option.some.inj e) (Nat.ne_of_lt (Nat.lt_of_lt_of_le hyO44 (Nat.le_of_eq hzO83))))
        replace bO83_1 := BoxAt.grownR bO83_1 hgb96 (fun e => absurd (Option.some.inj e) (Nat.ne_of_lt (Nat.lt_of_lt_of_le hyO44 (Nat.le_of_eq hzO83))))
        replace bO83_2 := BoxAt.grownR bO83_2 hgb96 (fun e => absurd (Option.some.inj e) (Nat.ne_of_lt (Nat.lt_of_lt_of_le hyO44 (Nat.le_of_eq hzO83))))
        replace bO83_3 := BoxAt.grownR bO83_3 hgb96 (fun e => absurd (Option.some.inj e) (Nat.ne_of_lt (Nat.lt_of_lt_of_le hyO44 (Nat.le_of_eq hzO83))))
        replace hE := hgr95.ext _ hE (Nat.le_trans (Nat.le_trans hs7 (Nat.le_trans hs10 (Nat.le_trans hs12 (Nat.le_trans hs18 (Nat.le_trans hs21 (Nat.le_trans hs23 (Nat.le_trans hs26 (Nat.le_trans hs31 (Nat.le_trans hs34 (Nat.le_trans hs36 (Nat.le_trans hs41 hs43))))))))))) (Nat.le_of_eq hzO44))
        replace hX13 := hgr95.ext _ hX13 (Nat.le_trans (Nat.le_trans hs18 (Nat.le_trans hs21 (Nat.le_trans hs23 (Nat.le_trans hs26 (Nat.le_trans hs31 (Nat.le_trans hs34 (Nat.le_trans hs36 (Nat.le_trans hs41 hs43)))))))) (Nat.le_of_eq hzO44))
        have hs97 := hgr95.size
        refine ⟨⟨bO16_0.1, bO16_1.1⟩, ?_⟩
        have hl98 := own94.base g90 rfl; have hh99 := own94.lt g90 rfl
        have hne102 : Hid (g90 ≠ O83) := Lib.hid (hor89.elim (fun e => by rw [e]; exact (Nat.ne_of_lt (Nat.lt_of_lt_of_le hyO44 (Nat.le_of_eq hzO83)))) (fun q => Nat.ne_of_gt (Nat.lt_of_lt_of_le lt86 (Nat.le_trans (Nat.le_refl _) q))))
        have hbk103 := own94.lt
        have hbs114 := own94.base
        obtain ⟨g104, cap105, w106, hrun107, own108, hgr109, hgb110⟩ := own_app1k (P := Try.prog) (ty := 27) stT (own94) (Nat.le_of_lt (Nat.lt_of_lt_of_le hyO44 (Nat.le_trans hs85 hs97))) (k := k1) hl88 (O := O83) (c := 1) (x := (⟨62, 1 + pk27, pk15, (pk15 + 1) + pk24⟩ : Mem.St)) (d := [.int .i64 62, .int .i64 (1 + pk27 : Int), .int .i64 (pk15 : Int), .int .i64 ((pk15 + 1) + pk24 : Int)]) (F := []) rfl (cells4 (bO83_0.1) (bO83_1.1) (bO83_2.1) (bO83_3.1)) (by simp [Value.oneCell']) (⟨rfl, rfl⟩) (fun b hb => by cases hb) (by omega) (by omega)
        refine wd_step 7 hR rfl (by kernel_rfl) (by kernel_rfl) (by kernel_rfl) (sn_eff (v := .slice (some ⟨g104, 0, none⟩) (k1 + 1) cap105) (w' := w106) (ex_append rfl (by kernel_rfl) (by kernel_rfl) hrun107) ?_)
        replace bO5_0 := BoxAt.grownR bO5_0 hgb110 (own_not hbs114 (Nat.lt_of_lt_of_le lt8 (Nat.le_trans (Nat.le_trans hs10 (Nat.le_trans hs12 (Nat.le_trans hs18 (Nat.le_trans hs21 (Nat.le_trans hs23 (Nat.le_trans hs26 (Nat.le_trans hs31 (Nat.le_trans hs34 (Nat.le_trans hs36 (Nat.le_trans hs41 hs43)))))))))) (Nat.le_of_eq hzO44))))
        replace bO5_1 := BoxAt.grownR bO5_1 hgb110 (own_not hbs114 (Nat.lt_of_lt_of_le lt8 (Nat.le_trans (Nat.le_trans hs10 (Nat.le_trans hs12 (Nat.le_trans hs18 (Nat.le_trans hs21 (Nat.le_trans hs23 (Nat.le_trans hs26 (Nat.le_trans hs31 (Nat.le_trans hs34 (Nat.le_trans hs36 (Nat.le_trans hs41 hs43)))))))))) (Nat.le_of_eq hzO44))))
        replace bO5_2 := BoxAt.grownR bO5_2 hgb110 (own_not hbs114 (Nat.lt_of_lt_of_le lt8 (Nat.le_trans (Nat.le_trans hs10 (Nat.le_trans hs12 (Nat.le_trans hs18 (Nat.le_trans hs21 (Nat.le_trans hs23 (Nat.le_trans hs26 (Nat.le_trans hs31 (Nat.le_trans hs34 (Nat.le_trans hs36 (Nat.le_trans hs41 hs43)))))))))) (Nat.le_of_eq hzO44))))
        replace bO16_0 := BoxAt.grownR bO16_0 hgb110 (own_not hbs114 (Nat.lt_of_lt_of_le lt19 (Nat.le_trans (Nat.le_trans hs21 (Nat.le_trans hs23 (Nat.le_trans hs26 (Nat.le_trans hs31 (Nat.le_trans hs34 (Nat.le_trans hs36 (Nat.le_trans hs41 hs43))))))) (Nat.le_of_eq hzO44))))
        replace bO16_1 := BoxAt.grownR bO16_1 hgb110 (own_not hbs114 (Nat.lt_of_lt_of_le lt19 (Nat.le_trans (Nat.le_trans hs21 (Nat.le_trans hs23 (Nat.le_trans hs26 (Nat.le_trans hs31 (Nat.le_trans hs34 (Nat.le_trans hs36 (Nat.le_trans hs41 hs43))))))) (Nat.le_of_eq hzO44))))
        replace bO83_0 := BoxAt.grownR bO83_0 hgb110 (fun e => absurd (Option.some.inj e) hne102.out)
        replace bO83_1 := BoxAt.grownR bO83_1 hgb110 (fun e => absurd (Option.some.inj e) hne102.out)
        replace bO83_2 := BoxAt.grownR bO83_2 hgb110 (fun e => absurd (Option.some.inj e) hne102.out)
        replace bO83_3 := BoxAt.grownR bO83_3 hgb110 (fun e => absurd (Option.some.inj e) hne102.out)
        replace hE := hgr109.ext _ hE (Nat.le_trans (Nat.le_trans hs7 (Nat.le_trans hs10 (Nat.le_trans hs12 (Nat.le_trans hs18 (Nat.le_trans hs21 (Nat.le_trans hs23 (Nat.le_trans hs26 (Nat.le_trans hs31 (Nat.le_trans hs34 (Nat.le_trans hs36 (Nat.le_trans hs41 hs43))))))))))) (Nat.le_of_eq hzO44))
        replace hX13 := hgr109.ext _ hX13 (Nat.le_trans (Nat.le_trans hs18 (Nat.le_trans hs21 (Nat.le_trans hs23 (Nat.le_trans hs26 (Nat.le_trans hs31 (Nat.le_trans hs34 (Nat.le_trans hs36 (Nat.le_trans hs41 hs43)))))))) (Nat.le_of_eq hzO44))
        have hs111 := hgr109.size
        refine ⟨⟨bO16_0.1, bO16_1.1⟩, ?_⟩
        have hl112 := own108.base g104 rfl; have hh113 := own108.lt g104 rfl
        refine wd_take 8 (.slice (some ⟨g104, 0, none⟩) (k1 + 1) cap105) hR rfl (by kernel_rfl) rfl (by kernel_rfl) (fun w _ => by kernel_rfl) (⟨bO16_0.1, bO16_1.1⟩) ?_
        refine wd_end hL hR hK (by kernel_rfl) ?_
        have hM116 : StsAt w106 (some ⟨g104, 0, none⟩) (k1 + 1) (l ++ [⟨62, 1 + pk27, pk15, (pk15 + 1) + pk24⟩]) := own_sts own108 (by rw [List.length_append]; simp; omega) (by omega)
        have hX117 : Ext w106 w106 := Ext.refl _
        exact qw_leaf hJ [9, 11, 13, 14, 15, 16, 17, 18, 19, 20] (ws' := [(9, .bool true), (11, .int .i64 (pk14 : Int)), (13, .int .i64 (1 + pk27 : Int)), (14, .int .i64 (r28 : Int)), (15, .int .i64 0), (16, .int .i64 (ov32 : Int)), (17, .int .i64 0), (18, .int .i64 (r38 : Int)), (19, .int .i64 0), (20, .slice (some ⟨g104, 0, none⟩) (k1 + 1) cap105)]) (by kernel_rfl) ⟨O44, O83, g104, cap105, rfl, hE, hX13, bO5_0, bO5_1, bO5_2, bO16_0, bO16_1, hM116, (Nat.le_trans hs43 (Nat.le_trans hs46 (Nat.le_trans hs85 (Nat.le_trans hs97 hs111))))⟩
    ·
      refine sn_newS (us := #[.int .i64 62, .int .i64 (1 + pk27 : Int), .int .i64 (pk15 : Int), .int .i64 ((pk15 + 1) + pk24 : Int)]) (t := 26) (k := 1) (c := 1) (by kernel_rfl) ?_
      intro O118 X119 hO hOs hb hbx
      have hzO118 := hO; have hyO118 := hOs; clear hO hOs
      have bO118_0 : BoxAt X119 O118 0 (.int .i64 62) := hbx 0 _ rfl
      have bO118_1 : BoxAt X119 O118 1 (.int .i64 (1 + pk27 : Int)) := hbx 1 _ rfl
      have bO118_2 : BoxAt X119 O118 2 (.int .i64 (pk15 : Int)) := hbx 2 _ rfl
      have bO118_3 : BoxAt X119 O118 3 (.int .i64 ((pk15 + 1) + pk24 : Int)) := hbx 3 _ rfl
      clear hbx
      replace hE := hE.trans hb
      replace hX13 := hX13.trans hb
      replace bO5_0 := BoxAt.ext hb bO5_0
      replace bO5_1 := BoxAt.ext hb bO5_1
      replace bO5_2 := BoxAt.ext hb bO5_2
      replace bO16_0 := BoxAt.ext hb bO16_0
      replace bO16_1 := BoxAt.ext hb bO16_1
      have hs120 := hb.size
      clear hb
      have lt121 := bO118_0.lt
      refine ⟨⟨bO16_0.1, bO16_1.1⟩, ?_⟩
      refine wd_step 0 hR rfl (by kernel_rfl) (by kernel_rfl) (by kernel_rfl) (sn_newS0 (t := 26) (by kernel_rfl) ?_)
      intro O122 X123 hO hOs hb hpO122
      have hzO122 := hO; have hyO122 : O122 < X123.heap.size := (by omega); clear hO hOs
      replace hE := hE.trans hb
      replace hX13 := hX13.trans hb
      replace bO5_0 := BoxAt.ext hb bO5_0
      replace bO5_1 := BoxAt.ext hb bO5_1
      replace bO5_2 := BoxAt.ext hb bO5_2
      replace bO16_0 := BoxAt.ext hb bO16_0
      replace bO16_1 := BoxAt.ext hb bO16_1
      replace bO118_0 := BoxAt.ext hb bO118_0
      replace bO118_1 := BoxAt.ext hb bO118_1
      replace bO118_2 := BoxAt.ext hb bO118_2
      replace bO118_3 := BoxAt.ext hb bO118_3
      have hs124 := hb.size
      clear hb
      refine ⟨⟨bO16_0.1, bO16_1.1⟩, ?_⟩
      have ow125 : OwnL stR O122 26 4 (.slice (some ⟨O122, 0, none⟩) 0 0) X123 [] := OwnL.empty stR hpO122 (Nat.le_refl _)
      have hbk126 := ow125.lt; have ow125l : ([] : List Mem.St).length = 0 := rfl
      have hl128 : (l).length = k1 := by first | omega | (rw [List.length_append]; omega)
      have hbs140 := ow125.base
      obtain ⟨g130, cap131, w132, hrun133, own134, hgr135, hgb136, hcap127, hor129⟩ := app_sts (c := c1) ow125 (Nat.le_of_lt (Nat.lt_of_lt_of_le hyO122 (Nat.le_refl _))) ow125l (Nat.le_refl 0) (hLm.ext hX13) (by omega)
      simp only [Nat.zero_add, List.nil_append] at hrun133 own134 hcap127
      refine wd_step 2 hR rfl (by kernel_rfl) (by kernel_rfl) (by kernel_rfl) (sn_eff (v := .slice (some ⟨g130, 0, none⟩) k1 cap131) (w' := w132) (ex_append rfl (by kernel_rfl) (by kernel_rfl) hrun133) ?_)
      replace bO5_0 := BoxAt.grownR bO5_0 hgb136 (own_not hbs140 (Nat.lt_of_lt_of_le lt8 (Nat.le_trans (Nat.le_trans hs10 (Nat.le_trans hs12 (Nat.le_trans hs18 (Nat.le_trans hs21 (Nat.le_trans hs23 (Nat.le_trans hs26 (Nat.le_trans hs31 (Nat.le_trans hs34 (Nat.le_trans hs36 (Nat.le_trans hs41 (Nat.le_trans hs43 hs120))))))))))) (Nat.le_of_eq hzO122))))
      replace bO5_1 := BoxAt.grownR bO5_1 hgb136 (own_not hbs140 (Nat.lt_of_lt_of_le lt8 (Nat.le_trans (Nat.le_trans hs10 (Nat.le_trans hs12 (Nat.le_trans hs18 (Nat.le_trans hs21 (Nat.le_trans hs23 (Nat.le_trans hs26 (Nat.le_trans hs31 (Nat.le_trans hs34 (Nat.le_trans hs36 (Nat.le_trans hs41 (Nat.le_trans hs43 hs120))))))))))) (Nat.le_of_eq hzO122))))
      replace bO5_2 := BoxAt.grownR bO5_2 hgb136 (own_not hbs140 (Nat.lt_of_lt_of_le lt8 (Nat.le_trans (Nat.le_trans hs10 (Nat.le_trans hs12 (Nat.le_trans hs18 (Nat.le_trans hs21 (Nat.le_trans hs23 (Nat.le_trans hs26 (Nat.le_trans hs31 (Nat.le_trans hs34 (Nat.le_trans hs36 (Nat.le_trans hs41 (Nat.le_trans hs43 hs120))))))))))) (Nat.le_of_eq hzO122))))
      replace bO16_0 := BoxAt.grownR bO16_0 hgb136 (own_not hbs140 (Nat.lt_of_lt_of_le lt19 (Nat.le_trans (Nat.le_trans hs21 (Nat.le_trans hs23 (Nat.le_trans hs26 (Nat.le_trans hs31 (Nat.le_trans hs34 (Nat.le_trans hs36 (Nat.le_trans hs41 (Nat.le_trans hs43 hs120)))))))) (Nat.le_of_eq hzO122))))
      replace bO16_1 := BoxAt.grownR bO16_1 hgb136 (own_not hbs140 (Nat.lt_of_lt_of_le lt19 (Nat.le_trans (Nat.le_trans hs21 (Nat.le_trans hs23 (Nat.le_trans hs26 (Nat.le_trans hs31 (Nat.le_trans hs34 (Nat.le_trans hs36 (Nat.le_trans hs41 (Nat.le_trans hs43 hs120)))))))) (Nat.le_of_eq hzO122))))
      replace bO118_0 := BoxAt.grownR bO118_0 hgb136 (own_not hbs140 (Nat.lt_of_lt_of_le lt121 (Nat.le_trans (Nat.le_refl _) (Nat.le_of_eq hzO122))))
      replace bO118_1 := BoxAt.grownR bO118_1 hgb136 (own_not hbs140 (Nat.lt_of_lt_of_le lt121 (Nat.le_trans (Nat.le_refl _) (Nat.le_of_eq hzO122))))
      replace bO118_2 := BoxAt.grownR bO118_2 hgb136 (own_not hbs140 (Nat.lt_of_lt_of_le lt121 (Nat.le_trans (Nat.le_refl _) (Nat.le_of_eq hzO122))))
      replace bO118_3 := BoxAt.grownR bO118_3 hgb136 (own_not hbs140 (Nat.lt_of_lt_of_le lt121 (Nat.le_trans (Nat.le_refl _) (Nat.le_of_eq hzO122))))
      replace hE := hgr135.ext _ hE (Nat.le_trans (Nat.le_trans hs7 (Nat.le_trans hs10 (Nat.le_trans hs12 (Nat.le_trans hs18 (Nat.le_trans hs21 (Nat.le_trans hs23 (Nat.le_trans hs26 (Nat.le_trans hs31 (Nat.le_trans hs34 (Nat.le_trans hs36 (Nat.le_trans hs41 (Nat.le_trans hs43 hs120)))))))))))) (Nat.le_of_eq hzO122))
      replace hX13 := hgr135.ext _ hX13 (Nat.le_trans (Nat.le_trans hs18 (Nat.le_trans hs21 (Nat.le_trans hs23 (Nat.le_trans hs26 (Nat.le_trans hs31 (Nat.le_trans hs34 (Nat.le_trans hs36 (Nat.le_trans hs41 (Nat.le_trans hs43 hs120))))))))) (Nat.le_of_eq hzO122))
      have hs137 := hgr135.size
      refine ⟨⟨bO16_0.1, bO16_1.1⟩, ?_⟩
      have hl138 := own134.base g130 rfl; have hh139 := own134.lt g130 rfl
      have hbk142 := own134.lt
      have hbs153 := own134.base
      obtain ⟨g143, cap144, w145, hrun146, own147, hgr148, hgb149⟩ := own_app1k (P := Try.prog) (ty := 27) stT (own134) (Nat.le_of_lt (Nat.lt_of_lt_of_le hyO122 hs137)) (k := k1) hl128 (O := O118) (c := 1) (x := (⟨62, 1 + pk27, pk15, (pk15 + 1) + pk24⟩ : Mem.St)) (d := [.int .i64 62, .int .i64 (1 + pk27 : Int), .int .i64 (pk15 : Int), .int .i64 ((pk15 + 1) + pk24 : Int)]) (F := []) rfl (cells4 (bO118_0.1) (bO118_1.1) (bO118_2.1) (bO118_3.1)) (by simp [Value.oneCell']) (⟨rfl, rfl⟩) (fun b hb => by cases hb) (by omega) (by omega)
      refine wd_step 7 hR rfl (by kernel_rfl) (by kernel_rfl) (by kernel_rfl) (sn_eff (v := .slice (some ⟨g143, 0, none⟩) (k1 + 1) cap144) (w' := w145) (ex_append rfl (by kernel_rfl) (by kernel_rfl) hrun146) ?_)
      replace bO5_0 := BoxAt.grownR bO5_0 hgb149 (own_not hbs153 (Nat.lt_of_lt_of_le lt8 (Nat.le_trans (Nat.le_trans hs10 (Nat.le_trans hs12 (Nat.le_trans hs18 (Nat.le_trans hs21 (Nat.le_trans hs23 (Nat.le_trans hs26 (Nat.le_trans hs31 (Nat.le_trans hs34 (Nat.le_trans hs36 (Nat.le_trans hs41 (Nat.le_trans hs43 hs120))))))))))) (Nat.le_of_eq hzO122))))
      replace bO5_1 := BoxAt.grownR bO5_1 hgb149 (own_not hbs153 (Nat.lt_of_lt_of_le lt8 (Nat.le_trans (Nat.le_trans hs10 (Nat.le_trans hs12 (Nat.le_trans hs18 (Nat.le_trans hs21 (Nat.le_trans hs23 (Nat.le_trans hs26 (Nat.le_trans hs31 (Nat.le_trans hs34 (Nat.le_trans hs36 (Nat.le_trans hs41 (Nat.le_trans hs43 hs120))))))))))) (Nat.le_of_eq hzO122))))
      replace bO5_2 := BoxAt.grownR bO5_2 hgb149 (own_not hbs153 (Nat.lt_of_lt_of_le lt8 (Nat.le_trans (Nat.le_trans hs10 (Nat.le_trans hs12 (Nat.le_trans hs18 (Nat.le_trans hs21 (Nat.le_trans hs23 (Nat.le_trans hs26 (Nat.le_trans hs31 (Nat.le_trans hs34 (Nat.le_trans hs36 (Nat.le_trans hs41 (Nat.le_trans hs43 hs120))))))))))) (Nat.le_of_eq hzO122))))
      replace bO16_0 := BoxAt.grownR bO16_0 hgb149 (own_not hbs153 (Nat.lt_of_lt_of_le lt19 (Nat.le_trans (Nat.le_trans hs21 (Nat.le_trans hs23 (Nat.le_trans hs26 (Nat.le_trans hs31 (Nat.le_trans hs34 (Nat.le_trans hs36 (Nat.le_trans hs41 (Nat.le_trans hs43 hs120)))))))) (Nat.le_of_eq hzO122))))
      replace bO16_1 := BoxAt.grownR bO16_1 hgb149 (own_not hbs153 (Nat.lt_of_lt_of_le lt19 (Nat.le_trans (Nat.le_trans hs21 (Nat.le_trans hs23 (Nat.le_trans hs26 (Nat.le_trans hs31 (Nat.le_trans hs34 (Nat.le_trans hs36 (Nat.le_trans hs41 (Nat.le_trans hs43 hs120)))))))) (Nat.le_of_eq hzO122))))
      replace bO118_0 := BoxAt.grownR bO118_0 hgb149 (own_not hbs153 (Nat.lt_of_lt_of_le lt121 (Nat.le_trans (Nat.le_refl _) (Nat.le_of_eq hzO122))))
      replace bO118_1 := BoxAt.grownR bO118_1 hgb149 (own_not hbs153 (Nat.lt_of_lt_of_le lt121 (Nat.le_trans (Nat.le_refl _) (Nat.le_of_eq hzO122))))
      replace bO118_2 := BoxAt.grownR bO118_2 hgb149 (own_not hbs153 (Nat.lt_of_lt_of_le lt121 (Nat.le_trans (Nat.le_refl _) (Nat.le_of_eq hzO122))))
      replace bO118_3 := BoxAt.grownR bO118_3 hgb149 (own_not hbs153 (Nat.lt_of_lt_of_le lt121 (Nat.le_trans (Nat.le_refl _) (Nat.le_of_eq hzO122))))
      replace hE := hgr148.ext _ hE (Nat.le_trans (Nat.le_trans hs7 (Nat.le_trans hs10 (Nat.le_trans hs12 (Nat.le_trans hs18 (Nat.le_trans hs21 (Nat.le_trans hs23 (Nat.le_trans hs26 (Nat.le_trans hs31 (Nat.le_trans hs34 (Nat.le_trans hs36 (Nat.le_trans hs41 (Nat.le_trans hs43 hs120)))))))))))) (Nat.le_of_eq hzO122))
      replace hX13 := hgr148.ext _ hX13 (Nat.le_trans (Nat.le_trans hs18 (Nat.le_trans hs21 (Nat.le_trans hs23 (Nat.le_trans hs26 (Nat.le_trans hs31 (Nat.le_trans hs34 (Nat.le_trans hs36 (Nat.le_trans hs41 (Nat.le_trans hs43 hs120))))))))) (Nat.le_of_eq hzO122))
      have hs150 := hgr148.size
      refine ⟨⟨bO16_0.1, bO16_1.1⟩, ?_⟩
      have hl151 := own147.base g143 rfl; have hh152 := own147.lt g143 rfl
      refine wd_take 8 (.slice (some ⟨g143, 0, none⟩) (k1 + 1) cap144) hR rfl (by kernel_rfl) rfl (by kernel_rfl) (fun w _ => by kernel_rfl) (⟨bO16_0.1, bO16_1.1⟩) ?_
      refine wd_end hL hR hK (by kernel_rfl) ?_
      have hM155 : StsAt w145 (some ⟨g143, 0, none⟩) (k1 + 1) (l ++ [⟨62, 1 + pk27, pk15, (pk15 + 1) + pk24⟩]) := own_sts own147 (by rw [List.length_append]; simp; omega) (by omega)
      have hX156 : Ext w145 w145 := Ext.refl _
      exact qw_leaf hJ [9, 11, 13, 14, 15, 16, 17, 18, 19, 20] (ws' := [(9, .bool true), (11, .int .i64 (pk14 : Int)), (13, .int .i64 (1 + pk27 : Int)), (14, .int .i64 (r28 : Int)), (15, .int .i64 0), (16, .int .i64 (ov32 : Int)), (17, .int .i64 0), (18, .int .i64 (r38 : Int)), (19, .int .i64 0), (20, .slice (some ⟨g143, 0, none⟩) (k1 + 1) cap144)]) (by kernel_rfl) ⟨O122, O118, g143, cap144, rfl, hE, hX13, bO5_0, bO5_1, bO5_2, bO16_0, bO16_1, hM155, (Nat.le_trans hs43 (Nat.le_trans hs120 (Nat.le_trans hs124 (Nat.le_trans hs137 hs150))))⟩
  ·
    clear bO5_0 bO5_1 bO5_2 bO16_0 bO16_1 hE hX13
    rintro L ws Y157 ⟨O44, O65, g69, cap70, rfl, hE, hX13, bO5_0, bO5_1, bO5_2, bO16_0, bO16_1, hM81, hn158⟩
    have hX159 : Ext Y157 Y157 := Ext.refl _
    refine qw_then ?_
    refine cw_seq ?_
    have hXu : Mem.okU ⟨62, 1 + pk27, pk15, (pk15 + 1) + pk24⟩ := ⟨by simp only []; omega, by simp only []; omega⟩
    have hX : Mem.okSt ⟨62, 1 + pk27, pk15, (pk15 + 1) + pk24⟩ = true := Mem.okSt_mk (by omega) (by omega) (by omega)
    have hok2 := Mem.ok_snoc hok (by omega) hX (fun y hy => him y hy)
    refine cw_plain ?_
    refine pl_take (.slice (some ⟨g69, 0, none⟩) (k1 + 1) cap70) rfl (by kernel_rfl) (by kernel_rfl) (by kernel_rfl) (by kernel_rfl) ?_
    refine pl_take (.int .i64 (pk14 : Int)) rfl (by kernel_rfl) (by kernel_rfl) (by kernel_rfl) (by kernel_rfl) ?_
    refine pl_step rfl (by kernel_rfl) (by kernel_rfl) (by kernel_rfl) (sn_call (f := 22) (args := #[.slice (some ⟨g69, 0, none⟩) (k1 + 1) cap70, .int .i64 (pk14 : Int)]) (by kernel_rfl) ((Over_y pk14 _ _ hM81 (Ext.refl _) hok2 (by omega) (by omega)).mono ?_))
    rintro e w161 ⟨ov160, rfl, hov160, hb⟩
    replace hE := hE.trans hb
    replace hX13 := hX13.trans hb
    replace hX159 := hX159.trans hb
    replace bO5_0 := BoxAt.ext hb bO5_0
    replace bO5_1 := BoxAt.ext hb bO5_1
    replace bO5_2 := BoxAt.ext hb bO5_2
    replace bO16_0 := BoxAt.ext hb bO16_0
    replace bO16_1 := BoxAt.ext hb bO16_1
    have hs162 := hb.size
    clear hb
    refine ⟨_, rfl, ?_⟩
    refine pl_take (.tuple #[.int .i64 (ov160 : Int), .int .i64 0]) rfl (by kernel_rfl) (by kernel_rfl) (by kernel_rfl) (by kernel_rfl) ?_
    refine pl_take (.int .i64 (ov160 : Int)) rfl (by kernel_rfl) (by kernel_rfl) (by kernel_rfl) (by kernel_rfl) ?_
    refine pl_take (.int .i64 0) rfl (by kernel_rfl) (by kernel_rfl) (by kernel_rfl) (by kernel_rfl) ?_
    refine pl_take (.int .i64 (ov160 : Int)) rfl (by kernel_rfl) (by kernel_rfl) (by kernel_rfl) (by kernel_rfl) ?_
    refine pl_take (.int .i64 0) rfl (by kernel_rfl) (by kernel_rfl) (by kernel_rfl) (by kernel_rfl) ?_
    refine pl_nil ?_
    refine qw_then ?_
    refine cw_clean [9, 11, 13, 14, 15, 16, 17, 18, 19, 21, 22] (ws' := [(9, .bool true), (11, .int .i64 (pk14 : Int)), (13, .int .i64 (1 + pk27 : Int)), (14, .int .i64 (r28 : Int)), (15, .int .i64 0), (16, .int .i64 (ov32 : Int)), (17, .int .i64 0), (18, .int .i64 (r38 : Int)), (19, .int .i64 0), (21, .int .i64 (ov160 : Int)), (22, .int .i64 0)]) (by kernel_rfl) (fun L => ?_)
    refine cw_seq ?_
    refine cw_seq ?_
    have hm1 := Mem.top_nonneg hu htr28; have hm2 := Mem.top_part htr28 htr38 (by omega)
    have ho1 := (hov32.plain hf).1
    have hsay : ov32 < 0 → (ov160 < 0 ↔ _) := fun h => Mem.room_say (x := ⟨62, 1 + pk27, pk15, (pk15 + 1) + pk24⟩) (by omega) hu hf hXu (by simp only []; omega) hov32 h hov160 htr28
    simp only [] at hsay; rw [← hr28] at hsay
    refine cw_plain ?_
    refine pl_take (.int .i64 0) rfl (by kernel_rfl) (by kernel_rfl) (by kernel_rfl) (by kernel_rfl) ?_
    refine pl_take (.bool false) rfl (by kernel_rfl) (by kernel_rfl) (by kernel_rfl) (by kernel_rfl) ?_
    refine pl_take (.bool false) rfl (by kernel_rfl) (by kernel_rfl) (by kernel_rfl) (by kernel_rfl) ?_
    refine pl_take (.int .i64 0) rfl (by kernel_rfl) (by kernel_rfl) (by kernel_rfl) (by kernel_rfl) ?_
    refine pl_take (.bool false) rfl (by kernel_rfl) (by kernel_rfl) (by kernel_rfl) (by kernel_rfl) ?_
    refine pl_take (.bool false) rfl (by kernel_rfl) (by kernel_rfl) (by kernel_rfl) (by kernel_rfl) ?_
    refine pl_take (.bool false) rfl (by kernel_rfl) (by kernel_rfl) (by kernel_rfl) (by kernel_rfl) ?_
    refine pl_take (.int .i64 0) rfl (by kernel_rfl) (by kernel_rfl) (by kernel_rfl) (by kernel_rfl) ?_
    refine pl_take (.bool false) rfl (by kernel_rfl) (by kernel_rfl) (by kernel_rfl) (by kernel_rfl) ?_
    refine pl_take (.bool false) rfl (by kernel_rfl) (by kernel_rfl) (by kernel_rfl) (by kernel_rfl) ?_
    refine pl_take (.bool false) rfl (by kernel_rfl) (by kernel_rfl) (by kernel_rfl) (by kernel_rfl) ?_
    refine pl_take (.int .i64 0) rfl (by kernel_rfl) (by kernel_rfl) (by kernel_rfl) (by kernel_rfl) ?_
    refine pl_take (.bool false) rfl (by kernel_rfl) (by kernel_rfl) (by kernel_rfl) (by kernel_rfl) ?_
    refine pl_take (.bool false) rfl (by kernel_rfl) (by kernel_rfl) (by kernel_rfl) (by kernel_rfl) ?_
    refine pl_take (.bool false) rfl (by kernel_rfl) (by kernel_rfl) (by kernel_rfl) (by kernel_rfl) ?_
    refine pl_take (.int .i64 (r28 : Int)) rfl (by kernel_rfl) (by kernel_rfl) (by kernel_rfl) (by kernel_rfl) ?_
    refine pl_take (.bool false) rfl (by kernel_rfl) (by kernel_rfl) (by kernel_rfl) (ev_ndec (show _ = Result.ok (Next.value (Value.bool (decide ((r28 : Int) < (0 : Int))))) _ from by kernel_rfl) (by omega)) ?_
    refine pl_take (.bool false) rfl (by kernel_rfl) (by kernel_rfl) (by kernel_rfl) (by kernel_rfl) ?_
    refine pl_take (.bool false) rfl (by kernel_rfl) (by kernel_rfl) (by kernel_rfl) (by kernel_rfl) ?_
    refine pl_take (.int .i64 (r28 : Int)) rfl (by kernel_rfl) (by kernel_rfl) (by kernel_rfl) (by kernel_rfl) ?_
    refine pl_take (.int .i64 (pk14 : Int)) rfl (by kernel_rfl) (by kernel_rfl) (by kernel_rfl) (by kernel_rfl) ?_
    refine pl_take (.bool false) rfl (by kernel_rfl) (by kernel_rfl) (by kernel_rfl) (ev_ndec (show _ = Result.ok (Next.value (Value.bool (decide ((r28 : Int) > (pk14 : Int))))) _ from by kernel_rfl) (by omega)) ?_
    refine pl_take (.bool false) rfl (by kernel_rfl) (by kernel_rfl) (by kernel_rfl) (by kernel_rfl) ?_
    refine pl_take (.bool false) rfl (by kernel_rfl) (by kernel_rfl) (by kernel_rfl) (by kernel_rfl) ?_
    refine pl_take (.int .i64 (r38 : Int)) rfl (by kernel_rfl) (by kernel_rfl) (by kernel_rfl) (by kernel_rfl) ?_
    refine pl_take (.int .i64 (r28 : Int)) rfl (by kernel_rfl) (by kernel_rfl) (by kernel_rfl) (by kernel_rfl) ?_
    refine pl_take (.bool false) rfl (by kernel_rfl) (by kernel_rfl) (by kernel_rfl) (ev_ndec (show _ = Result.ok (Next.value (Value.bool (decide ((r38 : Int) < (r28 : Int))))) _ from by kernel_rfl) (by omega)) ?_
    refine pl_take (.bool false) rfl (by kernel_rfl) (by kernel_rfl) (by kernel_rfl) (by kernel_rfl) ?_
    refine pl_nil ?_
    refine qw_then ?_
    refine cw_clean [9, 13, 14, 16, 21, 120] (ws' := [(9, .bool true), (13, .int .i64 (1 + pk27 : Int)), (14, .int .i64 (r28 : Int)), (16, .int .i64 (ov32 : Int)), (21, .int .i64 (ov160 : Int)), (120, .bool false)]) (by kernel_rfl) (fun L => ?_)
    refine cw_f (by kernel_rfl) ?_
    refine cw_skip ?_
    refine qw_then ?_
    refine cw_seq ?_
    refine cw_plain ?_
    refine pl_take (.bool true) rfl (by kernel_rfl) (by kernel_rfl) (by kernel_rfl) (by kernel_rfl) ?_
    refine pl_take (.bool true) rfl (by kernel_rfl) (by kernel_rfl) (by kernel_rfl) (by kernel_rfl) ?_
    refine pl_take (.int .i64 (ov32 : Int)) rfl (by kernel_rfl) (by kernel_rfl) (by kernel_rfl) (by kernel_rfl) ?_
    by_cases hc163 : (ov32 : Int) ≥ (0 : Int)
    ·
      refine pl_take (.bool true) rfl (by kernel_rfl) (by kernel_rfl) (by kernel_rfl) (ev_dec (show _ = Result.ok (Next.value (Value.bool (decide ((ov32 : Int) ≥ (0 : Int))))) _ from by kernel_rfl) (hc163)) ?_
      refine pl_take (.bool true) rfl (by kernel_rfl) (by kernel_rfl) (by kernel_rfl) (by kernel_rfl) ?_
      refine pl_skip rfl (by kernel_rfl) (by kernel_rfl) (by kernel_rfl) ?_
      refine pl_skip rfl (by kernel_rfl) (by kernel_rfl) (by kernel_rfl) ?_
      refine pl_skip rfl (by kernel_rfl) (by kernel_rfl) (by kernel_rfl) ?_
      refine pl_skip rfl (by kernel_rfl) (by kernel_rfl) (by kernel_rfl) ?_
      refine pl_skip rfl (by kernel_rfl) (by kernel_rfl) (by kernel_rfl) ?_
      refine pl_skip rfl (by kernel_rfl) (by kernel_rfl) (by kernel_rfl) ?_
      refine pl_take (.bool true) rfl (by kernel_rfl) (by kernel_rfl) (by kernel_rfl) (by kernel_rfl) ?_
      refine pl_take (.bool true) rfl (by kernel_rfl) (by kernel_rfl) (by kernel_rfl) (by kernel_rfl) ?_
      refine pl_take (.bool true) rfl (by kernel_rfl) (by kernel_rfl) (by kernel_rfl) (by kernel_rfl) ?_
      refine pl_nil ?_
      refine qw_then ?_
      refine cw_clean [8] (ws' := [(8, .bool true)]) (by kernel_rfl) (fun L => ?_)
      refine cw_ret ?_
      refine qw_ret [.bool true] rfl ⟨(by kernel_rfl), trivial⟩ ?_
      exact ⟨rfl, hE⟩
    ·
      refine pl_take (.bool false) rfl (by kernel_rfl) (by kernel_rfl) (by kernel_rfl) (ev_ndec (show _ = Result.ok (Next.value (Value.bool (decide ((ov32 : Int) ≥ (0 : Int))))) _ from by kernel_rfl) (hc163)) ?_
      refine pl_take (.bool false) rfl (by kernel_rfl) (by kernel_rfl) (by kernel_rfl) (by kernel_rfl) ?_
      refine pl_take (.int .i64 (ov160 : Int)) rfl (by kernel_rfl) (by kernel_rfl) (by kernel_rfl) (by kernel_rfl) ?_
      by_cases hc164 : (ov160 : Int) < (0 : Int)
      ·
        refine pl_take (.bool true) rfl (by kernel_rfl) (by kernel_rfl) (by kernel_rfl) (ev_dec (show _ = Result.ok (Next.value (Value.bool (decide ((ov160 : Int) < (0 : Int))))) _ from by kernel_rfl) (hc164)) ?_
        refine pl_take (.int .i64 (1 + pk27 : Int)) rfl (by kernel_rfl) (by kernel_rfl) (by kernel_rfl) (by kernel_rfl) ?_
        refine pl_take (.int .i64 (r28 : Int)) rfl (by kernel_rfl) (by kernel_rfl) (by kernel_rfl) (by kernel_rfl) ?_
        refine pl_take (.bool true) rfl (by kernel_rfl) (by kernel_rfl) (by kernel_rfl) (ev_dec (show _ = Result.ok (Next.value (Value.bool (decide ((1 + pk27 : Int) ≤ (r28 : Int))))) _ from by kernel_rfl) ((hsay (by omega)).1 hc164)) ?_
        refine pl_take (.bool true) rfl (by kernel_rfl) (by kernel_rfl) (by kernel_rfl) (by kernel_rfl) ?_
        refine pl_take (.bool true) rfl (by kernel_rfl) (by kernel_rfl) (by kernel_rfl) (by kernel_rfl) ?_
        refine pl_take (.bool true) rfl (by kernel_rfl) (by kernel_rfl) (by kernel_rfl) (by kernel_rfl) ?_
        refine pl_take (.bool true) rfl (by kernel_rfl) (by kernel_rfl) (by kernel_rfl) (by kernel_rfl) ?_
        refine pl_nil ?_
        refine qw_then ?_
        refine cw_clean [8] (ws' := [(8, .bool true)]) (by kernel_rfl) (fun L => ?_)
        refine cw_ret ?_
        refine qw_ret [.bool true] rfl ⟨(by kernel_rfl), trivial⟩ ?_
        exact ⟨rfl, hE⟩
      ·
        refine pl_take (.bool false) rfl (by kernel_rfl) (by kernel_rfl) (by kernel_rfl) (ev_ndec (show _ = Result.ok (Next.value (Value.bool (decide ((ov160 : Int) < (0 : Int))))) _ from by kernel_rfl) (hc164)) ?_
        refine pl_take (.int .i64 (1 + pk27 : Int)) rfl (by kernel_rfl) (by kernel_rfl) (by kernel_rfl) (by kernel_rfl) ?_
        refine pl_take (.int .i64 (r28 : Int)) rfl (by kernel_rfl) (by kernel_rfl) (by kernel_rfl) (by kernel_rfl) ?_
        refine pl_take (.bool false) rfl (by kernel_rfl) (by kernel_rfl) (by kernel_rfl) (ev_ndec (show _ = Result.ok (Next.value (Value.bool (decide ((1 + pk27 : Int) ≤ (r28 : Int))))) _ from by kernel_rfl) (fun h => hc164 ((hsay (by omega)).2 h))) ?_
        refine pl_take (.bool true) rfl (by kernel_rfl) (by kernel_rfl) (by kernel_rfl) (by kernel_rfl) ?_
        refine pl_take (.bool true) rfl (by kernel_rfl) (by kernel_rfl) (by kernel_rfl) (by kernel_rfl) ?_
        refine pl_take (.bool true) rfl (by kernel_rfl) (by kernel_rfl) (by kernel_rfl) (by kernel_rfl) ?_
        refine pl_take (.bool true) rfl (by kernel_rfl) (by kernel_rfl) (by kernel_rfl) (by kernel_rfl) ?_
        refine pl_nil ?_
        refine qw_then ?_
        refine cw_clean [8] (ws' := [(8, .bool true)]) (by kernel_rfl) (fun L => ?_)
        refine cw_ret ?_
        refine qw_ret [.bool true] rfl ⟨(by kernel_rfl), trivial⟩ ?_
        exact ⟨rfl, hE⟩

end Go.Proofs.Ytnbjjddfcondlaa

/- The statement MemoryRoom: for every input the law returns true, and every argument reads as it read before; the two tables of package math/bits that the row lists are tied to the program's text. -/
namespace Go.Proofs.Ytnbjjddfcondlaa
open Go.ChangeShapes Go.WideShapes Go.ChangeAt Go.RowKit

set_option maxRecDepth 100000 in
theorem MemoryRoom_lifted (os : Os) (started : os.Started) (H : Type) (enc : TypeId × Value → H) :
    ReturnsInHanded {} Try.checked os 8 .any (Rows.memoryRoomSpec.pre6 enc Try.prog Try.f8 Rows.memoryRoomRow.domain false)
      (Rows.memoryRoomSpec.post enc Try.prog Try.f8 false true false false) := by
  refine returnsInHanded_of_change_sized (C := Try.checked) own started (by kernel_rfl) Try.func8
    (ChangeSpec.witness6 (enc := enc) (C := Try.checked) false ⟨#[], #[.slice none 0 0, .agg #[.int .i64 0, .int .i64 0, .int .i64 0], .int .i64 0, .int .i64 0], []⟩ 8 (by kernel_rfl) (by kernel_rfl) (by kernel_rfl) (by kernel_rfl)) ?_
  intro W base args ds gs before hval0 hW _ hsz _
  have hval : ∀ (j : Nat) t v, Try.f8.params[j]? = some t → args[j]? = some v → Value.okWide Try.prog W .any base t v := hval0
  have hW' := hW
  obtain ⟨p, q, hA0, hV, rfl, hfz, hnd⟩ := hW
  have hA : DataW.TrodAll enc Try.prog W 0 (fun _ => true) true Try.f8.params.toList args.toList ds p := hA0
  rw [Try.params8] at hA hval
  obtain ⟨v0, vs0, d0, ds0, p0, q0, hargs, rfl, rfl, h0, r0⟩ := trodAll_cons hA
  obtain ⟨v1, vs1, d1, ds1, p1, q1, rfl, rfl, rfl, h1, r1⟩ := trodAll_cons r0
  obtain ⟨v2, vs2, d2, ds2, p2, q2, rfl, rfl, rfl, h2, r2⟩ := trodAll_cons r1
  obtain ⟨v3, vs3, d3, ds3, p3, q3, rfl, rfl, rfl, h3, r3⟩ := trodAll_cons r2
  obtain ⟨rfl, rfl, rfl⟩ := trodAll_nil r3
  obtain rfl : args = #[v0, v1, v2, v3] := by cases args; simp_all
  obtain ⟨rfl, rfl⟩ := trodVars_none hV
  have k0 := h0
  have lt0 : ∀ x ∈ p0, x.block < W.heap.size := by obtain ⟨m, hm⟩ := k0; exact DataW.trod_lt m _ _ _ hm
  have op0 := open_tris (hval 0 _ v0 rfl rfl) h0
  have k1 := h1
  have lt1 : ∀ x ∈ p1, x.block < W.heap.size := by obtain ⟨m, hm⟩ := k1; exact DataW.trod_lt m _ _ _ hm
  have op1 := open_three (hval 1 _ v1 rfl rfl) h1
  obtain ⟨a2, rfl, rfl, rfl, w2⟩ := open_int Try.underlying3 (hval 2 3 v2 rfl rfl) h2
  obtain ⟨a3, rfl, rfl, rfl, w3⟩ := open_int Try.underlying3 (hval 3 3 v3 rfl rfl) h3
  clear hA0 hval0
  refine (MemoryRoom_walk W v0 op0 v1 op1 a2 (isI_of_wf w2) a3 (isI_of_wf w3)).mono fun e W' ⟨he, hE⟩ => ?_
  subst he
  have bel : Below W.heap.size W W' := hE
  exact ⟨_, rfl, _, _, _, [], _, [], hW', trodAll_mk1 (shut_bool Try.underlying4 _), (trodAll_cons_mk (Below.trod laidOut (by kernel_rfl) (of_decide_eq_true (by kernel_rfl)) k0 bel lt0) (trodAll_cons_mk (Below.trod laidOut (by kernel_rfl) (of_decide_eq_true (by kernel_rfl)) k1 bel lt1) (trodAll_cons_mk (shut_int Try.underlying3 w2) (trodAll_cons_mk (shut_int Try.underlying3 w3) trodAll_mk0)))), rfl, bel.frame _, fun h => by cases h⟩

theorem MemoryRoom_over : Rows.MemoryRoomSaid :=
  OpenClaim.holds_of_wide 8 Try.f8 rfl rfl rfl rfl rfl rfl rfl ⟨rfl, rfl, rfl, rfl, rfl⟩ rfl rfl rfl rfl rfl (by kernel_rfl) Try.func8 (by kernel_rfl)
    (of_decide_eq_true (by kernel_rfl)) (by unfold Func.isWrapper; first | (rw [if_pos (by decide +kernel)]; kernel_rfl) | (rw [if_neg (by decide +kernel)]; exact ⟨rfl, rfl⟩))
    (fun os started H enc _ => MemoryRoom_lifted os started H enc)

theorem MemoryRoom_holds : Rows.MemoryRoomSaid := MemoryRoom_over
#print axioms MemoryRoom_holds
end Go.Proofs.Ytnbjjddfcondlaa
