/- Part 7 of what the proof of MemoryMatchesReference stands on. -/
import Derived.Test.YtnbjjddfcondlaaV6MemoryMatchesReference
/- The walk of MemoryMatchesReference. -/
namespace Go.Proofs.Ytnbjjddfcondlaa
open Go.RowKit

set_option maxRecDepth 1000000 in
set_option maxHeartbeats 4000000 in
theorem MemoryMatchesReference_walk (w : World) (v0 : Value) (op0 : Tris w v0) (v1 : Value) (op1 : Stored1 v1) (v2 : Value) (op2 : Storeds w v2) (v3 : Value) (op3 : Six1 v3) (v4 : Value) (op4 : Option1 w v4) (i5 : Int) (hi5 : IsI i5) (i6 : Int) (hi6 : IsI i6) (i7 : Int) (hi7 : IsI i7) (v8 : Value) (op8 : Spell1 v8) : Calls Try.prog 3 #[v0, v1, v2, v3, v4, .int .i64 i5, .int .i64 i6, .int .i64 i7, v8] w fun e w' => e = .returned (.bool true) ∧ Ext w w' := by
  obtain ⟨a0, n0, c0, q, rfl, hnc, hcm, hT⟩ := op0
  obtain ⟨od, rfl⟩ := op1
  obtain ⟨a2, n2, c2, l2, rfl, hS2⟩ := op2
  obtain ⟨y0, y1, y2, y3, y4, y5, rfl, hy0, hy1, hy2, hy3, hy4, hy5⟩ := op3
  obtain ⟨op, a4, n4, c4, rfl, hS4⟩ := op4
  obtain ⟨sf, sg, rfl, hsf, hsg⟩ := op8
  obtain ⟨hn2, hc2, _, _⟩ := id hS2
  obtain ⟨hn4, hc4, _, _⟩ := id hS4
  refine calls_cw 306 [(8, .agg #[.int .i64 (sf : Int), .int .i64 (sg : Int)]), (7, .int .i64 (i7 : Int)), (6, .int .i64 (i6 : Int)), (5, .int .i64 (i5 : Int)), (4, .agg #[.int .i64 (op.id : Int), .int .i64 (op.od : Int), .int .i64 (op.cl : Int), .int .i64 (op.sa : Int), .int .i64 (op.fr : Int), .int .i64 (op.to : Int), .int .i64 (op.lk : Int), .int .i64 (op.sz : Int), .slice a4 n4 c4]), (3, .agg #[.int .i64 (y0 : Int), .int .i64 (y1 : Int), .int .i64 (y2 : Int), .int .i64 (y3 : Int), .int .i64 (y4 : Int), .int .i64 (y5 : Int)]), (2, .slice a2 n2 c2), (1, .agg #[.int .i64 (od.im : Int), .int .i64 (od.un : Int), .int .i64 (od.fr : Int), .int .i64 (od.to : Int)]), (0, .slice a0 n0 c0)] Try.func3 rfl Try.ntmps3 (by kernel_rfl) (by kernel_rfl) (fun L => ?_)
  have hE : Ext w w := Ext.refl w
  refine cw_seq ?_
  refine cw_plain ?_
  refine pl_step rfl (by kernel_rfl) (by kernel_rfl) (by kernel_rfl) (sn_new (us := #[.int .i64 (od.im : Int), .int .i64 (od.un : Int), .int .i64 (od.fr : Int), .int .i64 (od.to : Int)]) (t := 26) (by kernel_rfl) ?_)
  intro O5 X6 hO hOs hb hbx
  have hzO5 := hO; have hyO5 := hOs; clear hO hOs
  have bO5_0 : BoxAt X6 O5 0 (.int .i64 (od.im : Int)) := hbx 0 _ rfl
  have bO5_1 : BoxAt X6 O5 1 (.int .i64 (od.un : Int)) := hbx 1 _ rfl
  have bO5_2 : BoxAt X6 O5 2 (.int .i64 (od.fr : Int)) := hbx 2 _ rfl
  have bO5_3 : BoxAt X6 O5 3 (.int .i64 (od.to : Int)) := hbx 3 _ rfl
  clear hbx
  replace hE := hE.trans hb
  have hs7 := hb.size
  clear hb
  have lt8 := bO5_0.lt
  refine pl_step rfl (by kernel_rfl) (by kernel_rfl) (by kernel_rfl) (sn_new (us := #[.int .i64 (y0 : Int), .int .i64 (y1 : Int), .int .i64 (y2 : Int), .int .i64 (y3 : Int), .int .i64 (y4 : Int), .int .i64 (y5 : Int)]) (t := 28) (by kernel_rfl) ?_)
  intro O9 X10 hO hOs hb hbx
  have hzO9 := hO; have hyO9 := hOs; clear hO hOs
  have bO9_0 : BoxAt X10 O9 0 (.int .i64 (y0 : Int)) := hbx 0 _ rfl
  have bO9_1 : BoxAt X10 O9 1 (.int .i64 (y1 : Int)) := hbx 1 _ rfl
  have bO9_2 : BoxAt X10 O9 2 (.int .i64 (y2 : Int)) := hbx 2 _ rfl
  have bO9_3 : BoxAt X10 O9 3 (.int .i64 (y3 : Int)) := hbx 3 _ rfl
  have bO9_4 : BoxAt X10 O9 4 (.int .i64 (y4 : Int)) := hbx 4 _ rfl
  have bO9_5 : BoxAt X10 O9 5 (.int .i64 (y5 : Int)) := hbx 5 _ rfl
  clear hbx
  replace hE := hE.trans hb
  replace bO5_0 := BoxAt.ext hb bO5_0
  replace bO5_1 := BoxAt.ext hb bO5_1
  replace bO5_2 := BoxAt.ext hb bO5_2
  replace bO5_3 := BoxAt.ext hb bO5_3
  have hs11 := hb.size
  clear hb
  have lt12 := bO9_0.lt
  refine pl_step rfl (by kernel_rfl) (by kernel_rfl) (by kernel_rfl) (sn_new (us := #[.int .i64 (op.id : Int), .int .i64 (op.od : Int), .int .i64 (op.cl : Int), .int .i64 (op.sa : Int), .int .i64 (op.fr : Int), .int .i64 (op.to : Int), .int .i64 (op.lk : Int), .int .i64 (op.sz : Int), .slice a4 n4 c4]) (t := 31) (by kernel_rfl) ?_)
  intro O13 X14 hO hOs hb hbx
  have hzO13 := hO; have hyO13 := hOs; clear hO hOs
  have bO13_0 : BoxAt X14 O13 0 (.int .i64 (op.id : Int)) := hbx 0 _ rfl
  have bO13_1 : BoxAt X14 O13 1 (.int .i64 (op.od : Int)) := hbx 1 _ rfl
  have bO13_2 : BoxAt X14 O13 2 (.int .i64 (op.cl : Int)) := hbx 2 _ rfl
  have bO13_3 : BoxAt X14 O13 3 (.int .i64 (op.sa : Int)) := hbx 3 _ rfl
  have bO13_4 : BoxAt X14 O13 4 (.int .i64 (op.fr : Int)) := hbx 4 _ rfl
  have bO13_5 : BoxAt X14 O13 5 (.int .i64 (op.to : Int)) := hbx 5 _ rfl
  have bO13_6 : BoxAt X14 O13 6 (.int .i64 (op.lk : Int)) := hbx 6 _ rfl
  have bO13_7 : BoxAt X14 O13 7 (.int .i64 (op.sz : Int)) := hbx 7 _ rfl
  have bO13_8 : BoxAt X14 O13 8 (.slice a4 n4 c4) := hbx 8 _ rfl
  clear hbx
  replace hE := hE.trans hb
  replace bO5_0 := BoxAt.ext hb bO5_0
  replace bO5_1 := BoxAt.ext hb bO5_1
  replace bO5_2 := BoxAt.ext hb bO5_2
  replace bO5_3 := BoxAt.ext hb bO5_3
  replace bO9_0 := BoxAt.ext hb bO9_0
  replace bO9_1 := BoxAt.ext hb bO9_1
  replace bO9_2 := BoxAt.ext hb bO9_2
  replace bO9_3 := BoxAt.ext hb bO9_3
  replace bO9_4 := BoxAt.ext hb bO9_4
  replace bO9_5 := BoxAt.ext hb bO9_5
  have hs15 := hb.size
  clear hb
  have lt16 := bO13_0.lt
  refine pl_step rfl (by kernel_rfl) (by kernel_rfl) (by kernel_rfl) (sn_new (us := #[.int .i64 (sf : Int), .int .i64 (sg : Int)]) (t := 24) (by kernel_rfl) ?_)
  intro O17 X18 hO hOs hb hbx
  have hzO17 := hO; have hyO17 := hOs; clear hO hOs
  have bO17_0 : BoxAt X18 O17 0 (.int .i64 (sf : Int)) := hbx 0 _ rfl
  have bO17_1 : BoxAt X18 O17 1 (.int .i64 (sg : Int)) := hbx 1 _ rfl
  clear hbx
  replace hE := hE.trans hb
  replace bO5_0 := BoxAt.ext hb bO5_0
  replace bO5_1 := BoxAt.ext hb bO5_1
  replace bO5_2 := BoxAt.ext hb bO5_2
  replace bO5_3 := BoxAt.ext hb bO5_3
  replace bO9_0 := BoxAt.ext hb bO9_0
  replace bO9_1 := BoxAt.ext hb bO9_1
  replace bO9_2 := BoxAt.ext hb bO9_2
  replace bO9_3 := BoxAt.ext hb bO9_3
  replace bO9_4 := BoxAt.ext hb bO9_4
  replace bO9_5 := BoxAt.ext hb bO9_5
  replace bO13_0 := BoxAt.ext hb bO13_0
  replace bO13_1 := BoxAt.ext hb bO13_1
  replace bO13_2 := BoxAt.ext hb bO13_2
  replace bO13_3 := BoxAt.ext hb bO13_3
  replace bO13_4 := BoxAt.ext hb bO13_4
  replace bO13_5 := BoxAt.ext hb bO13_5
  replace bO13_6 := BoxAt.ext hb bO13_6
  replace bO13_7 := BoxAt.ext hb bO13_7
  replace bO13_8 := BoxAt.ext hb bO13_8
  have hs19 := hb.size
  clear hb
  have lt20 := bO17_0.lt
  refine pT (.bool false) ?_
  refine pl_nil ?_
  refine qw_then ?_
  refine cw_seq ?_
  have hX21 : Ext X18 X18 := Ext.refl _
  refine cw_plain ?_
  refine pl_step rfl (by kernel_rfl) (by kernel_rfl) (by kernel_rfl) (sn_call (f := 10) (args := #[]) (by kernel_rfl) ((sane_c _).mono ?_))
  rintro e w22 ⟨rfl, hb⟩
  replace hE := hE.trans hb
  replace hX21 := hX21.trans hb
  have hs23 := hb.size
  clear hb
  refine ⟨_, rfl, ?_⟩
  refine pT (.bool true) ?_
  refine pl_nil ?_
  refine qw_then ?_
  refine cw_clean [0, 2, 5, 6, 7, 10, 12, 13, 17, 19] (ws' := [(0, .slice a0 n0 c0), (2, .slice a2 n2 c2), (5, .int .i64 (i5 : Int)), (6, .int .i64 (i6 : Int)), (7, .int .i64 (i7 : Int)), (10, .pointer (some ⟨O5, 0, none⟩)), (12, .pointer (some ⟨O9, 0, none⟩)), (13, .pointer (some ⟨O13, 0, none⟩)), (17, .pointer (some ⟨O17, 0, none⟩)), (19, .bool true)]) (by kernel_rfl) (fun L => ?_)
  refine cw_seq ?_
  refine cw_seq ?_
  refine cw_plain ?_
  refine pT (.bool true) ?_
  refine pT (.bool false) ?_
  refine pl_nil ?_
  refine qw_then ?_
  refine cw_f (by kernel_rfl) ?_
  refine cw_skip ?_
  refine qw_then ?_
  refine cw_seq ?_
  refine cw_plain ?_
  refine pT (.slice a0 n0 c0) ?_
  refine pl_step rfl (by kernel_rfl) (by kernel_rfl) (by kernel_rfl) (sn_call (f := 11) (args := #[.slice a0 n0 c0]) (by kernel_rfl) ((Made_c _ _ hT hE).mono ?_))
  rintro e w24 ⟨a1, k1, c1, rfl, hk12, hk1n, hown1, hb⟩
  replace hE := hE.trans hb
  replace hX21 := hX21.trans hb
  have hs25 := hb.size
  clear hb
  refine ⟨_, rfl, ?_⟩
  refine pT (.slice a1 k1 c1) ?_
  refine pl_nil ?_
  refine qw_then ?_
  refine cw_clean [0, 2, 5, 6, 7, 10, 12, 13, 17, 19, 20] (ws' := [(0, .slice a0 n0 c0), (2, .slice a2 n2 c2), (5, .int .i64 (i5 : Int)), (6, .int .i64 (i6 : Int)), (7, .int .i64 (i7 : Int)), (10, .pointer (some ⟨O5, 0, none⟩)), (12, .pointer (some ⟨O9, 0, none⟩)), (13, .pointer (some ⟨O13, 0, none⟩)), (17, .pointer (some ⟨O17, 0, none⟩)), (19, .bool true), (20, .slice a1 k1 c1)]) (by kernel_rfl) (fun L => ?_)
  refine cw_seq ?_
  refine cw_seq ?_
  obtain ⟨q6, hq6⟩ : ∃ q, decide (((k1 : Nat) : Int) > (0 : Int)) = q := ⟨_, rfl⟩
  refine cw_plain ?_
  refine pT (.slice a1 k1 c1) ?_
  refine pT (.int .i64 (((k1 : Nat) : Int) : Int)) ?_
  refine pl_take (.bool q6) rfl (by kernel_rfl) (by kernel_rfl) (by kernel_rfl) (ev_bool (show _ = Result.ok (Next.value (Value.bool (decide (((k1 : Nat) : Int) > (0 : Int))))) _ from by kernel_rfl) hq6) ?_
  refine pl_nil ?_
  refine qw_then ?_
  refine cw_join (fun ws' wr => ∃ lB : List Mem.St, ws' = [(0, .slice a0 n0 c0), (2, .slice a2 n2 c2), (5, .int .i64 (i5 : Int)), (6, .int .i64 (i6 : Int)), (7, .int .i64 (i7 : Int)), (12, .pointer (some ⟨O9, 0, none⟩)), (13, .pointer (some ⟨O13, 0, none⟩)), (17, .pointer (some ⟨O17, 0, none⟩)), (19, .bool true), (20, .slice a1 k1 c1)] ∧ w24.heap.size ≤ wr.heap.size ∧ Ext w wr ∧ Ext X18 wr ∧ StsAt wr a1 k1 lB) (fun hJ => ?_) ?_
  ·
    cases q6
    ·
      refine cw_f (by kernel_rfl) ?_
      refine cw_skip ?_
      exact qw_leaf hJ [0, 2, 5, 6, 7, 12, 13, 17, 19, 20] (ws' := [(0, .slice a0 n0 c0), (2, .slice a2 n2 c2), (5, .int .i64 (i5 : Int)), (6, .int .i64 (i6 : Int)), (7, .int .i64 (i7 : Int)), (12, .pointer (some ⟨O9, 0, none⟩)), (13, .pointer (some ⟨O13, 0, none⟩)), (17, .pointer (some ⟨O17, 0, none⟩)), (19, .bool true), (20, .slice a1 k1 c1)]) (by kernel_rfl) ⟨(Mem.madeL q k1), rfl, (Nat.le_refl _), hE, hX21, (own_sts hown1 (Mem.made_len _ _) (by omega))⟩
    ·
      have hk10 : 0 < k1 := by have := of_decide_eq_true hq6; omega
      refine cw_t (by kernel_rfl) ?_
      obtain ⟨b1, ha1, hb1⟩ := own_at hown1 (Mem.made_len _ _) (by omega)
      obtain rfl := ha1
      have hlt1 := (hown1).lt b1 rfl
      refine cw_draw [(some 62, [20], []), (some 63, [6], []), (some 64, [20], []), (some 65, [64], [2]), (some 66, [63, 65], [1, 3]), (some 67, [10], []), (some 68, [62, 66], [0, 4, 0, 1, 2, 3, 4, 5]), (none, [68, 67], [6, 5, 4, 0, 1, 2, 3, 4, 5])] (fun w' => Ext X18 w') (by kernel_rfl) (by kernel_rfl) (by kernel_rfl) (by kernel_rfl) ((calm_then calm_body)) (Ext.drew hX21) (fun ops Q X27 hb hL hR hK => ?_)
      replace hE := hE.trans hb
      replace hX21 := hX21.trans hb
      replace hown1 := hown1.ext hb
      have hs28 := hb.size
      clear hb
      refine wd_take 0 (.slice (some ⟨b1, 0, none⟩) k1 c1) hR rfl (by kernel_rfl) rfl (by kernel_rfl) (fun w _ => by kernel_rfl) (hX21) ?_
      refine wd_take 1 (.int .i64 (i6 : Int)) hR rfl (by kernel_rfl) rfl (by kernel_rfl) (fun w _ => by kernel_rfl) (hX21) ?_
      refine wd_take 2 (.slice (some ⟨b1, 0, none⟩) k1 c1) hR rfl (by kernel_rfl) rfl (by kernel_rfl) (fun w _ => by kernel_rfl) (hX21) ?_
      refine wd_take 3 (.int .i64 (((k1 : Nat) : Int) : Int)) hR rfl (by kernel_rfl) rfl (by kernel_rfl) (fun w _ => by kernel_rfl) (hX21) ?_
      refine wd_take 5 (.agg #[.int .i64 (od.im : Int), .int .i64 (od.un : Int), .int .i64 (od.fr : Int), .int .i64 (od.to : Int)]) hR rfl (by kernel_rfl) rfl (by kernel_rfl) (fun w hS => ex_load rfl (by kernel_rfl) (ld26 ((BoxAt.ext hS bO5_0).1) ((BoxAt.ext hS bO5_1).1) ((BoxAt.ext hS bO5_2).1) ((BoxAt.ext hS bO5_3).1))) (hX21) ?_
      refine wd_step 4 hR rfl (by kernel_rfl) (by kernel_rfl) (by kernel_rfl) (sn_call (f := 12) (args := #[.int .i64 (i6 : Int), .int .i64 (((k1 : Nat) : Int) : Int)]) (by kernel_rfl) ((pickvN_c i6 k1 _ hi6 (by omega) (by omega)).mono ?_))
      rintro e w' ⟨nk29, rfl, hqnk29, rfl⟩
      refine ⟨_, rfl, hX21, ?_⟩
      refine wd_take 6 (.pointer (some ⟨b1, nk29 * 4, none⟩)) hR rfl (by kernel_rfl) rfl (by kernel_rfl) (fun w _ => ex_index (p := .slice (some ⟨b1, 0, none⟩) k1 c1) (i := .int .i64 ((nk29 : Nat) : Int)) rfl (by kernel_rfl) (by kernel_rfl) (ix27z (k := nk29) (by omega))) (hX21) ?_
      have hbx := own_boxes hown1 (Mem.made_len _ _)
      have hkl : nk29 < (Mem.madeL q k1).length := by rw [Mem.made_len]; omega
      obtain ⟨c0, c1, c2, c3⟩ := hbx nk29 _ (stN_at hkl)
      refine wd_step 7 hR rfl (by kernel_rfl) (by kernel_rfl) (by kernel_rfl) (sn_setK4 (O := b1) (j := nk29 * 4) (v0 := .int .i64 (od.im : Int)) (v1 := .int .i64 (od.un : Int)) (v2 := .int .i64 (od.fr : Int)) (v3 := .int .i64 (od.to : Int)) (ex_store (p := .pointer (some ⟨b1, nk29 * 4, none⟩)) (v := .agg #[.int .i64 (od.im : Int), .int .i64 (od.un : Int), .int .i64 (od.fr : Int), .int .i64 (od.to : Int)]) rfl (by kernel_rfl) (by kernel_rfl) (st26 c0.1 c0.2 c1.1 c1.2 c2.1 c2.2 c3.1 c3.2)) c0 c1 c2 c3 ?_)
      intro X30 ho hv0 hv1 hv2 hv3 hk
      have hB : StsAt X30 (some ⟨b1, 0, none⟩) k1 ((Mem.madeL q k1).set nk29 od) := set_sts hbx hkl ⟨hv0, hv1, hv2, hv3⟩ hk (Mem.made_len _ _) (by omega)
      replace hE := ho.ext hE (Nat.le_trans (Nat.le_trans hs7 (Nat.le_trans hs11 (Nat.le_trans hs15 (Nat.le_trans hs19 hs23)))) hb1)
      replace hX21 := ho.ext hX21 (Nat.le_trans hs23 hb1)
      have hs31 : X27.heap.size ≤ X30.heap.size := Nat.le_of_eq ho.size.symm
      clear ho hk hv0 hv1 hv2 hv3 hbx c0 c1 c2 c3
      have hX32 : Ext X30 X30 := Ext.refl _
      refine ⟨hX21, ?_⟩
      refine wd_end hL hR hK (by kernel_rfl) ?_
      exact qw_leaf hJ [0, 2, 5, 6, 7, 12, 13, 17, 19, 20] (ws' := [(0, .slice a0 n0 c0), (2, .slice a2 n2 c2), (5, .int .i64 (i5 : Int)), (6, .int .i64 (i6 : Int)), (7, .int .i64 (i7 : Int)), (12, .pointer (some ⟨O9, 0, none⟩)), (13, .pointer (some ⟨O13, 0, none⟩)), (17, .pointer (some ⟨O17, 0, none⟩)), (19, .bool true), (20, .slice (some ⟨b1, 0, none⟩) k1 c1)]) (by kernel_rfl) ⟨((Mem.madeL q k1).set nk29 od), rfl, (Nat.le_trans hs28 hs31), hE, hX21, hB⟩
  ·
    clear hown1 hE hX21
    rintro L ws w33 ⟨lB, rfl, hs26, hE, hX21, hB9⟩
    have hX34 : Ext w33 w33 := Ext.refl _
    refine qw_then ?_
    refine cw_seq ?_
    refine cw_plain ?_
    refine pT (.pointer (some ⟨O17, 0, none⟩)) ?_
    refine pl_take (.int .i64 (sf : Int)) rfl (by kernel_rfl) (by kernel_rfl) (by kernel_rfl) (ex_load rfl (by kernel_rfl) (ld3 ((BoxAt.ext hX21 bO17_0).1))) ?_
    refine pl_step rfl (by kernel_rfl) (by kernel_rfl) (by kernel_rfl) (sn_call (f := 12) (args := #[.int .i64 (sf : Int), .int .i64 150]) (by kernel_rfl) ((pickv_c sf 150 _ hsf (by omega) (by omega)).mono ?_))
    rintro e w' ⟨pk35, rfl, hqpk35, rfl⟩
    refine ⟨_, rfl, ?_⟩
    refine pT (.agg #[.int .i64 (pk35 : Int), .int .i64 0]) ?_
    refine pl_step rfl (by kernel_rfl) (by kernel_rfl) (by kernel_rfl) (sn_new (us := #[.int .i64 0, .int .i64 0]) (t := 24) (by kernel_rfl) ?_)
    intro O36 X37 hO hOs hb hbx
    have hzO36 := hO; have hyO36 := hOs; clear hO hOs
    have bO36_0 : BoxAt X37 O36 0 (.int .i64 0) := hbx 0 _ rfl
    have bO36_1 : BoxAt X37 O36 1 (.int .i64 0) := hbx 1 _ rfl
    clear hbx
    replace hE := hE.trans hb
    replace hX21 := hX21.trans hb
    replace hX34 := hX34.trans hb
    have hs38 := hb.size
    clear hb
    have lt39 := bO36_0.lt
    refine pl_put rfl (by kernel_rfl) (by kernel_rfl) (sn_set2 (O := O36) (j := 0) (v := .int .i64 (pk35 : Int)) (v' := .int .i64 0) (ex_store (p := .pointer (some ⟨O36, 0, none⟩)) (v := .agg #[.int .i64 (pk35 : Int), .int .i64 0]) rfl (by kernel_rfl) (by kernel_rfl) (st24 bO36_0.1 bO36_0.2 bO36_1.1 bO36_1.2)) bO36_0 bO36_1 ?_)
    intro X40 ho hv0 hv1 hk
    replace hE := ho.ext hE (Nat.le_trans (Nat.le_trans hs7 (Nat.le_trans hs11 (Nat.le_trans hs15 (Nat.le_trans hs19 (Nat.le_trans hs23 (Nat.le_trans hs25 hs26)))))) (Nat.le_of_eq hzO36))
    replace hX21 := ho.ext hX21 (Nat.le_trans (Nat.le_trans hs23 (Nat.le_trans hs25 hs26)) (Nat.le_of_eq hzO36))
    replace hX34 := ho.ext hX34 (Nat.le_of_eq hzO36)
    have hs41 : X37.heap.size ≤ X40.heap.size := Nat.le_of_eq ho.size.symm
    clear ho hk bO36_0 bO36_1
    have bO36_0 := hv0; clear hv0
    have bO36_1 := hv1; clear hv1
    refine pl_nil ?_
    refine qw_then ?_
    refine cw_clean [0, 2, 5, 6, 7, 12, 13, 17, 19, 20, 21] (ws' := [(0, .slice a0 n0 c0), (2, .slice a2 n2 c2), (5, .int .i64 (i5 : Int)), (6, .int .i64 (i6 : Int)), (7, .int .i64 (i7 : Int)), (12, .pointer (some ⟨O9, 0, none⟩)), (13, .pointer (some ⟨O13, 0, none⟩)), (17, .pointer (some ⟨O17, 0, none⟩)), (19, .bool true), (20, .slice a1 k1 c1), (21, .pointer (some ⟨O36, 0, none⟩))]) (by kernel_rfl) (fun L => ?_)
    refine cw_seq ?_
    refine cw_draw [(some 73, [21], []), (some 74, [73], [0]), (some 75, [74], [1]), (some 76, [17], []), (some 77, [76], [3]), (some 78, [77], [4]), (some 79, [75, 78], [2, 5]), (some 80, [21], [0, 1, 2, 3, 4, 5, 6]), (none, [80, 79], [7, 6, 5, 0, 1, 2, 3, 4, 5, 6])] (fun w' => w'.cell? ⟨O36, 0, none⟩ = some (.int .i64 (pk35 : Int)) ∧ w'.cell? ⟨O17, 1, none⟩ = some (.int .i64 (sg : Int))) (by kernel_rfl) (by kernel_rfl) (by kernel_rfl) (by kernel_rfl) ((calm_then calm_body)) (⟨bO36_0.1, (BoxAt.ext hX21 bO17_1).1⟩) (fun ops Q X42 hb hL hR hK => ?_)
    replace hE := hE.trans hb
    replace hX21 := hX21.trans hb
    replace hX34 := hX34.trans hb
    replace bO36_0 := BoxAt.ext hb bO36_0
    replace bO36_1 := BoxAt.ext hb bO36_1
    have hs43 := hb.size
    clear hb
    refine wd_take 0 (.pointer (some ⟨O36, 0, none⟩)) hR rfl (by kernel_rfl) rfl (by kernel_rfl) (fun w _ => by kernel_rfl) (⟨bO36_0.1, (BoxAt.ext hX21 bO17_1).1⟩) ?_
    refine wd_take 1 (.int .i64 (pk35 : Int)) hR rfl (by kernel_rfl) rfl (by kernel_rfl) (fun w hS => ex_load rfl (by kernel_rfl) (ld3 (hS.1))) (⟨bO36_0.1, (BoxAt.ext hX21 bO17_1).1⟩) ?_
    refine wd_take 2 (.int .i64 (pk35 + 1 : Int)) hR rfl (by kernel_rfl) rfl (by kernel_rfl) (fun w _ => ev_wrap (by kernel_rfl) (by omega) (by omega)) (⟨bO36_0.1, (BoxAt.ext hX21 bO17_1).1⟩) ?_
    refine wd_take 3 (.pointer (some ⟨O17, 1, none⟩)) hR rfl (by kernel_rfl) rfl (by kernel_rfl) (fun w _ => by kernel_rfl) (⟨bO36_0.1, (BoxAt.ext hX21 bO17_1).1⟩) ?_
    refine wd_take 4 (.int .i64 (sg : Int)) hR rfl (by kernel_rfl) rfl (by kernel_rfl) (fun w hS => ex_load rfl (by kernel_rfl) (ld3 (hS.2))) (⟨bO36_0.1, (BoxAt.ext hX21 bO17_1).1⟩) ?_
    refine wd_step 5 hR rfl (by kernel_rfl) (by kernel_rfl) (by kernel_rfl) (sn_call (f := 12) (args := #[.int .i64 (sg : Int), .int .i64 60]) (by kernel_rfl) ((pickv_c sg 60 _ hsg (by omega) (by omega)).mono ?_))
    rintro e w' ⟨pk44, rfl, hqpk44, rfl⟩
    refine ⟨_, rfl, ⟨bO36_0.1, (BoxAt.ext hX21 bO17_1).1⟩, ?_⟩
    refine wd_take 6 (.int .i64 ((pk35 + 1) + pk44 : Int)) hR rfl (by kernel_rfl) rfl (by kernel_rfl) (fun w _ => ev_wrap (by kernel_rfl) (by omega) (by omega)) (⟨bO36_0.1, (BoxAt.ext hX21 bO17_1).1⟩) ?_
    refine wd_take 7 (.pointer (some ⟨O36, 1, none⟩)) hR rfl (by kernel_rfl) rfl (by kernel_rfl) (fun w _ => by kernel_rfl) (⟨bO36_0.1, (BoxAt.ext hX21 bO17_1).1⟩) ?_
    refine wd_step 8 hR rfl (by kernel_rfl) (by kernel_rfl) (by kernel_rfl) (sn_set (O := O36) (j := 1) (v := .int .i64 ((pk35 + 1) + pk44 : Int)) (ex_store (p := .pointer (some ⟨O36, 1, none⟩)) (v := .int .i64 ((pk35 + 1) + pk44 : Int)) rfl (by kernel_rfl) (by kernel_rfl) (st3 bO36_1.1 bO36_1.2)) bO36_1 ?_)
    intro X45 ho hv0 hk
    replace hE := ho.ext hE (Nat.le_trans (Nat.le_trans hs7 (Nat.le_trans hs11 (Nat.le_trans hs15 (Nat.le_trans hs19 (Nat.le_trans hs23 (Nat.le_trans hs25 hs26)))))) (Nat.le_of_eq hzO36))
    replace hX21 := ho.ext hX21 (Nat.le_trans (Nat.le_trans hs23 (Nat.le_trans hs25 hs26)) (Nat.le_of_eq hzO36))
    replace hX34 := ho.ext hX34 (Nat.le_of_eq hzO36)
    replace bO36_0 := hk 0 _ (by omega) bO36_0
    have hs46 : X42.heap.size ≤ X45.heap.size := Nat.le_of_eq ho.size.symm
    clear ho hk bO36_1
    have bO36_1 := hv0; clear hv0
    refine ⟨⟨bO36_0.1, (BoxAt.ext hX21 bO17_1).1⟩, ?_⟩
    refine wd_end hL hR hK (by kernel_rfl) ?_
    refine qw_then ?_
    refine cw_clean [0, 2, 5, 6, 7, 12, 13, 17, 19, 20, 21] (ws' := [(0, .slice a0 n0 c0), (2, .slice a2 n2 c2), (5, .int .i64 (i5 : Int)), (6, .int .i64 (i6 : Int)), (7, .int .i64 (i7 : Int)), (12, .pointer (some ⟨O9, 0, none⟩)), (13, .pointer (some ⟨O13, 0, none⟩)), (17, .pointer (some ⟨O17, 0, none⟩)), (19, .bool true), (20, .slice a1 k1 c1), (21, .pointer (some ⟨O36, 0, none⟩))]) (by kernel_rfl) (fun L => ?_)
    refine cw_seq ?_
    refine cw_seq ?_
    refine cw_draw [(some 81, [0], []), (some 82, [81], [0]), (some 83, [20], []), (some 84, [2], []), (some 85, [2], []), (some 86, [85], [4]), (some 87, [86], [5]), (some 88, [84, 87], [3, 6]), (some 89, [82, 83, 88], [1, 2, 7]), (some 90, [89], [8]), (some 91, [], [])] (fun w' => True) (by kernel_rfl) (by kernel_rfl) (by kernel_rfl) (by kernel_rfl) ((calm_then (calm_then calm_body))) (trivial) (fun ops Q X47 hb hL hR hK => ?_)
    replace hE := hE.trans hb
    replace hX21 := hX21.trans hb
    replace hX34 := hX34.trans hb
    replace bO36_0 := BoxAt.ext hb bO36_0
    replace bO36_1 := BoxAt.ext hb bO36_1
    have hs48 := hb.size
    clear hb
    refine wd_take 0 (.slice a0 n0 c0) hR rfl (by kernel_rfl) rfl (by kernel_rfl) (fun w _ => by kernel_rfl) (trivial) ?_
    refine wd_take 2 (.slice a1 k1 c1) hR rfl (by kernel_rfl) rfl (by kernel_rfl) (fun w _ => by kernel_rfl) (trivial) ?_
    refine wd_take 3 (.slice a2 n2 c2) hR rfl (by kernel_rfl) rfl (by kernel_rfl) (fun w _ => by kernel_rfl) (trivial) ?_
    refine wd_take 4 (.slice a2 n2 c2) hR rfl (by kernel_rfl) rfl (by kernel_rfl) (fun w _ => by kernel_rfl) (trivial) ?_
    refine wd_take 5 (.int .i64 (((n2 : Nat) : Int) : Int)) hR rfl (by kernel_rfl) rfl (by kernel_rfl) (fun w _ => by kernel_rfl) (trivial) ?_
    refine wd_take 6 (.int .i64 (((min n2 25 : Nat) : Int) : Int)) hR rfl (by kernel_rfl) rfl (by kernel_rfl) (fun w _ => ev_int (show _ = Result.ok (Next.value (Value.int .i64 (if (25 : Int) < (((n2 : Nat) : Int) : Int) then (25 : Int) else (((n2 : Nat) : Int) : Int)))) _ from by kernel_rfl) (by split <;> omega)) (trivial) ?_
    refine wd_take 7 (.slice a2 (min n2 25) c2) hR rfl (by kernel_rfl) rfl (by kernel_rfl) (fun w _ => ex_slice (p := .slice a2 n2 c2) rfl (by kernel_rfl) (by kernel_rfl) (by kernel_rfl) (by kernel_rfl) (sl27_010a (m := min n2 25) (by omega) (by omega))) (trivial) ?_
    refine wd_take 10 (.int .i64 0) hR rfl (by kernel_rfl) rfl (by kernel_rfl) (fun w _ => by kernel_rfl) (trivial) ?_
    refine wd_step 1 hR rfl (by kernel_rfl) (by kernel_rfl) (by kernel_rfl) (sn_call (f := 11) (args := #[.slice a0 n0 c0]) (by kernel_rfl) ((Made_y _ _ hT hE).mono ?_))
    rintro e w49 ⟨a3, k3, c3, l3, rfl, _, _, hL3, _, _, _, hb⟩
    replace hE := hE.trans hb
    replace hX21 := hX21.trans hb
    replace hX34 := hX34.trans hb
    replace bO36_0 := BoxAt.ext hb bO36_0
    replace bO36_1 := BoxAt.ext hb bO36_1
    have hs50 := hb.size
    clear hb
    have hX51 : Ext w49 w49 := Ext.refl _
    refine ⟨_, rfl, trivial, ?_⟩
    refine wd_step 8 hR rfl (by kernel_rfl) (by kernel_rfl) (by kernel_rfl) (sn_newS (us := #[.slice a3 k3 c3, .slice a1 k1 c1, .slice a2 (min n2 25) c2]) (t := 27) (k := 3) (c := 3) (by kernel_rfl) ?_)
    intro O52 X53 hO hOs hb hbx
    have hzO52 := hO; have hyO52 := hOs; clear hO hOs
    have bO52_0 : BoxAt X53 O52 0 (.slice a3 k3 c3) := hbx 0 _ rfl
    have bO52_1 : BoxAt X53 O52 1 (.slice a1 k1 c1) := hbx 1 _ rfl
    have bO52_2 : BoxAt X53 O52 2 (.slice a2 (min n2 25) c2) := hbx 2 _ rfl
    clear hbx
    replace hE := hE.trans hb
    replace hX21 := hX21.trans hb
    replace hX34 := hX34.trans hb
    replace hX51 := hX51.trans hb
    replace bO36_0 := BoxAt.ext hb bO36_0
    replace bO36_1 := BoxAt.ext hb bO36_1
    have hs54 := hb.size
    clear hb
    have lt55 := bO52_0.lt
    refine ⟨trivial, ?_⟩
    refine wd_take 9 (.int .i64 3) hR rfl (by kernel_rfl) rfl (by kernel_rfl) (fun w _ => by kernel_rfl) (trivial) ?_
    refine wd_end hL hR hK (by kernel_rfl) ?_
    refine qw_then ?_
    refine cw_clean [5, 6, 7, 12, 13, 17, 19, 21, 89, 90, 91] (ws' := [(5, .int .i64 (i5 : Int)), (6, .int .i64 (i6 : Int)), (7, .int .i64 (i7 : Int)), (12, .pointer (some ⟨O9, 0, none⟩)), (13, .pointer (some ⟨O13, 0, none⟩)), (17, .pointer (some ⟨O17, 0, none⟩)), (19, .bool true), (21, .pointer (some ⟨O36, 0, none⟩)), (89, .slice (some ⟨O52, 0, none⟩) 3 3), (90, .int .i64 3), (91, .int .i64 0)]) (by kernel_rfl) (fun L => ?_)
    refine cw_block ?_
    refine cw_loop [5, 6, 7, 12, 13, 17, 19, 21, 89, 90, 91] (fun ws' wr m => ∃ j : Nat, ws' = [(5, .int .i64 (i5 : Int)), (6, .int .i64 (i6 : Int)), (7, .int .i64 (i7 : Int)), (12, .pointer (some ⟨O9, 0, none⟩)), (13, .pointer (some ⟨O13, 0, none⟩)), (17, .pointer (some ⟨O17, 0, none⟩)), (19, .bool true), (21, .pointer (some ⟨O36, 0, none⟩)), (89, .slice (some ⟨O52, 0, none⟩) 3 3), (90, .int .i64 3), (91, .int .i64 (((j : Nat) : Int) : Int))] ∧ m = 3 - j ∧ X53.heap.size ≤ wr.heap.size ∧ Ext w wr ∧ Ext X18 wr ∧ Ext w33 wr ∧ Ext w49 wr ∧ BoxAt wr O36 0 (.int .i64 (pk35 : Int)) ∧ BoxAt wr O36 1 (.int .i64 ((pk35 + 1) + pk44 : Int)) ∧ BoxAt wr O52 0 (.slice a3 k3 c3) ∧ BoxAt wr O52 1 (.slice a1 k1 c1) ∧ BoxAt wr O52 2 (.slice a2 (min n2 25) c2) ∧ j ≤ 3) (ws0 := [(5, .int .i64 (i5 : Int)), (6, .int .i64 (i6 : Int)), (7, .int .i64 (i7 : Int)), (12, .pointer (some ⟨O9, 0, none⟩)), (13, .pointer (some ⟨O13, 0, none⟩)), (17, .pointer (some ⟨O17, 0, none⟩)), (19, .bool true), (21, .pointer (some ⟨O36, 0, none⟩)), (89, .slice (some ⟨O52, 0, none⟩) 3 3), (90, .int .i64 3), (91, .int .i64 0)]) (by kernel_rfl) _ ⟨0, rfl, rfl, Nat.le_refl _, hE, hX21, hX34, hX51, bO36_0, bO36_1, bO52_0, bO52_1, bO52_2, Nat.zero_le _⟩ ?_
    clear bO36_0 bO36_1 bO52_0 bO52_1 bO52_2 hE hX21 hX34 hX51
    rintro m58 L ws w57 ⟨j, rfl, rfl, hs56, hE, hX21, hX34, hX51, bO36_0, bO36_1, bO52_0, bO52_1, bO52_2, hj⟩
    by_cases hlt : j < 3
    ·
      obtain ⟨aj, nj, cj, lj, hcj, hLj⟩ := sel3L hlt (bO52_0.1) (hL3.ext hX51) (bO52_1.1) (hB9.ext hX34) (bO52_2.1) ((hS2.take (m := min n2 25) (by omega) (by omega)).ext hE)
      have hX59 : Ext w57 w57 := Ext.refl _
      refine cw_seq ?_
      refine cw_plain ?_
      refine pl_take (.bool true) rfl (by kernel_rfl) (by kernel_rfl) (by kernel_rfl) (ev_dec (show _ = Result.ok (Next.value (Value.bool (decide ((((j : Nat) : Int) : Int) < (3 : Int))))) _ from by kernel_rfl) (by omega)) ?_
      refine pl_nil ?_
      refine qw_then ?_
      refine cw_seq ?_
      refine cw_t (by kernel_rfl) ?_
      refine cw_skip ?_
      refine qw_then ?_
      refine cw_seq ?_
      refine cw_block ?_
      refine cw_seq ?_
      refine cw_plain ?_
      refine pl_take (.pointer (some ⟨O52, j, none⟩)) rfl (by kernel_rfl) (by kernel_rfl) (by kernel_rfl) (ex_index (p := .slice (some ⟨O52, 0, none⟩) 3 3) (i := .int .i64 ((j : Nat) : Int)) rfl (by kernel_rfl) (by kernel_rfl) (ix35z (k := j) (by omega))) ?_
      refine pl_take (.slice aj nj cj) rfl (by kernel_rfl) (by kernel_rfl) (by kernel_rfl) (ex_load rfl (by kernel_rfl) (ld27 (hcj))) ?_
      refine pT (.slice aj nj cj) ?_
      refine pl_nil ?_
      refine qw_then ?_
      refine cw_clean [5, 6, 7, 12, 13, 17, 19, 21, 23, 89, 90, 91] (ws' := [(5, .int .i64 (i5 : Int)), (6, .int .i64 (i6 : Int)), (7, .int .i64 (i7 : Int)), (12, .pointer (some ⟨O9, 0, none⟩)), (13, .pointer (some ⟨O13, 0, none⟩)), (17, .pointer (some ⟨O17, 0, none⟩)), (19, .bool true), (21, .pointer (some ⟨O36, 0, none⟩)), (23, .slice aj nj cj), (89, .slice (some ⟨O52, 0, none⟩) 3 3), (90, .int .i64 3), (91, .int .i64 (((j : Nat) : Int) : Int))]) (by kernel_rfl) (fun L => ?_)
      refine cw_seq ?_
      refine cw_plain ?_
      refine pT (.slice aj nj cj) ?_
      refine pl_step rfl (by kernel_rfl) (by kernel_rfl) (by kernel_rfl) (sn_call (f := 13) (args := #[.slice aj nj cj]) (by kernel_rfl) ((Most_c _ _ hLj (Ext.refl _)).mono ?_))
      rintro e w60 ⟨rfl, hb⟩
      replace hE := hE.trans hb
      replace hX21 := hX21.trans hb
      replace hX34 := hX34.trans hb
      replace hX51 := hX51.trans hb
      replace hX59 := hX59.trans hb
      replace bO36_0 := BoxAt.ext hb bO36_0
      replace bO36_1 := BoxAt.ext hb bO36_1
      replace bO52_0 := BoxAt.ext hb bO52_0
      replace bO52_1 := BoxAt.ext hb bO52_1
      replace bO52_2 := BoxAt.ext hb bO52_2
      have hs61 := hb.size
      clear hb
      refine ⟨_, rfl, ?_⟩
      refine pT (.tuple #[.int .i64 (Mem.ansV (Mem.okL lj) ((Mem.mostR lj).1) : Int), .int .i64 (Mem.ansV (Mem.okL lj) ((Mem.mostR lj).2) : Int), .int .i64 (Mem.ansE (Mem.okL lj) : Int)]) ?_
      refine pT (.int .i64 (Mem.ansV (Mem.okL lj) ((Mem.mostR lj).1) : Int)) ?_
      refine pT (.int .i64 (Mem.ansV (Mem.okL lj) ((Mem.mostR lj).2) : Int)) ?_
      refine pT (.int .i64 (Mem.ansE (Mem.okL lj) : Int)) ?_
      refine pT (.int .i64 (Mem.ansV (Mem.okL lj) ((Mem.mostR lj).1) : Int)) ?_
      refine pT (.int .i64 (Mem.ansV (Mem.okL lj) ((Mem.mostR lj).2) : Int)) ?_
      refine pT (.int .i64 (Mem.ansE (Mem.okL lj) : Int)) ?_
      refine pl_nil ?_
      refine qw_then ?_
      refine cw_clean [5, 6, 7, 12, 13, 17, 19, 21, 23, 24, 25, 26, 89, 90, 91] (ws' := [(5, .int .i64 (i5 : Int)), (6, .int .i64 (i6 : Int)), (7, .int .i64 (i7 : Int)), (12, .pointer (some ⟨O9, 0, none⟩)), (13, .pointer (some ⟨O13, 0, none⟩)), (17, .pointer (some ⟨O17, 0, none⟩)), (19, .bool true), (21, .pointer (some ⟨O36, 0, none⟩)), (23, .slice aj nj cj), (24, .int .i64 (Mem.ansV (Mem.okL lj) ((Mem.mostR lj).1) : Int)), (25, .int .i64 (Mem.ansV (Mem.okL lj) ((Mem.mostR lj).2) : Int)), (26, .int .i64 (Mem.ansE (Mem.okL lj) : Int)), (89, .slice (some ⟨O52, 0, none⟩) 3 3), (90, .int .i64 3), (91, .int .i64 (((j : Nat) : Int) : Int))]) (by kernel_rfl) (fun L => ?_)
      refine cw_seq ?_
      refine cw_plain ?_
      refine pT (.slice aj nj cj) ?_
      refine pl_step rfl (by kernel_rfl) (by kernel_rfl) (by kernel_rfl) (sn_call (f := 14) (args := #[.slice aj nj cj]) (by kernel_rfl) ((rMost_c _ _ hLj hX59).mono ?_))
      rintro e w62 ⟨rfl, hb⟩
      replace hE := hE.trans hb
      replace hX21 := hX21.trans hb
      replace hX34 := hX34.trans hb
      replace hX51 := hX51.trans hb
      replace hX59 := hX59.trans hb
      replace bO36_0 := BoxAt.ext hb bO36_0
      replace bO36_1 := BoxAt.ext hb bO36_1
      replace bO52_0 := BoxAt.ext hb bO52_0
      replace bO52_1 := BoxAt.ext hb bO52_1
      replace bO52_2 := BoxAt.ext hb bO52_2
      have hs63 := hb.size
      clear hb
      refine ⟨_, rfl, ?_⟩
      refine pT (.tuple #[.int .i64 (Mem.ansV (Mem.okL lj) ((Mem.mostR lj).1) : Int), .int .i64 (Mem.ansV (Mem.okL lj) ((Mem.mostR lj).2) : Int), .int .i64 (Mem.ansE (Mem.okL lj) : Int)]) ?_
      refine pT (.int .i64 (Mem.ansV (Mem.okL lj) ((Mem.mostR lj).1) : Int)) ?_
      refine pT (.int .i64 (Mem.ansV (Mem.okL lj) ((Mem.mostR lj).2) : Int)) ?_
      refine pT (.int .i64 (Mem.ansE (Mem.okL lj) : Int)) ?_
      refine pT (.int .i64 (Mem.ansV (Mem.okL lj) ((Mem.mostR lj).1) : Int)) ?_
      refine pT (.int .i64 (Mem.ansV (Mem.okL lj) ((Mem.mostR lj).2) : Int)) ?_
      refine pT (.int .i64 (Mem.ansE (Mem.okL lj) : Int)) ?_
      refine pl_nil ?_
      refine qw_then ?_
      refine cw_clean [5, 6, 7, 12, 13, 17, 19, 21, 23, 24, 25, 26, 27, 28, 29, 89, 90, 91] (ws' := [(5, .int .i64 (i5 : Int)), (6, .int .i64 (i6 : Int)), (7, .int .i64 (i7 : Int)), (12, .pointer (some ⟨O9, 0, none⟩)), (13, .pointer (some ⟨O13, 0, none⟩)), (17, .pointer (some ⟨O17, 0, none⟩)), (19, .bool true), (21, .pointer (some ⟨O36, 0, none⟩)), (23, .slice aj nj cj), (24, .int .i64 (Mem.ansV (Mem.okL lj) ((Mem.mostR lj).1) : Int)), (25, .int .i64 (Mem.ansV (Mem.okL lj) ((Mem.mostR lj).2) : Int)), (26, .int .i64 (Mem.ansE (Mem.okL lj) : Int)), (27, .int .i64 (Mem.ansV (Mem.okL lj) ((Mem.mostR lj).1) : Int)), (28, .int .i64 (Mem.ansV (Mem.okL lj) ((Mem.mostR lj).2) : Int)), (29, .int .i64 (Mem.ansE (Mem.okL lj) : Int)), (89, .slice (some ⟨O52, 0, none⟩) 3 3), (90, .int .i64 3), (91, .int .i64 (((j : Nat) : Int) : Int))]) (by kernel_rfl) (fun L => ?_)
      refine cw_seq ?_
      refine cw_plain ?_
      refine pT (.slice aj nj cj) ?_
      refine pl_step rfl (by kernel_rfl) (by kernel_rfl) (by kernel_rfl) (sn_call (f := 15) (args := #[.slice aj nj cj]) (by kernel_rfl) ((Rows_c _ _ hLj hX59).mono ?_))
      rintro e w68 ⟨ra64, rk65, rc66, rfl, hRw67, hb⟩
      replace hE := hE.trans hb
      replace hX21 := hX21.trans hb
      replace hX34 := hX34.trans hb
      replace hX51 := hX51.trans hb
      replace hX59 := hX59.trans hb
      replace bO36_0 := BoxAt.ext hb bO36_0
      replace bO36_1 := BoxAt.ext hb bO36_1
      replace bO52_0 := BoxAt.ext hb bO52_0
      replace bO52_1 := BoxAt.ext hb bO52_1
      replace bO52_2 := BoxAt.ext hb bO52_2
      have hs69 := hb.size
      clear hb
      have hX70 : Ext w68 w68 := Ext.refl _
      refine ⟨_, rfl, ?_⟩
      refine pT (.tuple #[.slice ra64 rk65 rc66, .int .i64 (Mem.ansE (Mem.okL lj) : Int)]) ?_
      refine pT (.slice ra64 rk65 rc66) ?_
      refine pT (.int .i64 (Mem.ansE (Mem.okL lj) : Int)) ?_
      refine pT (.slice ra64 rk65 rc66) ?_
      refine pT (.int .i64 (Mem.ansE (Mem.okL lj) : Int)) ?_
      refine pl_nil ?_
      refine qw_then ?_
      refine cw_clean [5, 6, 7, 12, 13, 17, 19, 21, 23, 24, 25, 26, 27, 28, 29, 30, 31, 89, 90, 91] (ws' := [(5, .int .i64 (i5 : Int)), (6, .int .i64 (i6 : Int)), (7, .int .i64 (i7 : Int)), (12, .pointer (some ⟨O9, 0, none⟩)), (13, .pointer (some ⟨O13, 0, none⟩)), (17, .pointer (some ⟨O17, 0, none⟩)), (19, .bool true), (21, .pointer (some ⟨O36, 0, none⟩)), (23, .slice aj nj cj), (24, .int .i64 (Mem.ansV (Mem.okL lj) ((Mem.mostR lj).1) : Int)), (25, .int .i64 (Mem.ansV (Mem.okL lj) ((Mem.mostR lj).2) : Int)), (26, .int .i64 (Mem.ansE (Mem.okL lj) : Int)), (27, .int .i64 (Mem.ansV (Mem.okL lj) ((Mem.mostR lj).1) : Int)), (28, .int .i64 (Mem.ansV (Mem.okL lj) ((Mem.mostR lj).2) : Int)), (29, .int .i64 (Mem.ansE (Mem.okL lj) : Int)), (30, .slice ra64 rk65 rc66), (31, .int .i64 (Mem.ansE (Mem.okL lj) : Int)), (89, .slice (some ⟨O52, 0, none⟩) 3 3), (90, .int .i64 3), (91, .int .i64 (((j : Nat) : Int) : Int))]) (by kernel_rfl) (fun L => ?_)
      refine cw_seq ?_
      refine cw_plain ?_
      refine pT (.slice aj nj cj) ?_
      refine pl_step rfl (by kernel_rfl) (by kernel_rfl) (by kernel_rfl) (sn_call (f := 16) (args := #[.slice aj nj cj]) (by kernel_rfl) ((rRows_c _ _ hLj hX59).mono ?_))
      rintro e w75 ⟨ra71, rk72, rc73, rfl, hRw74, hb⟩
      replace hE := hE.trans hb
      replace hX21 := hX21.trans hb
      replace hX34 := hX34.trans hb
      replace hX51 := hX51.trans hb
      replace hX59 := hX59.trans hb
      replace hX70 := hX70.trans hb
      replace bO36_0 := BoxAt.ext hb bO36_0
      replace bO36_1 := BoxAt.ext hb bO36_1
      replace bO52_0 := BoxAt.ext hb bO52_0
      replace bO52_1 := BoxAt.ext hb bO52_1
      replace bO52_2 := BoxAt.ext hb bO52_2
      have hs76 := hb.size
      clear hb
      have hX77 : Ext w75 w75 := Ext.refl _
      refine ⟨_, rfl, ?_⟩
      refine pT (.tuple #[.slice ra71 rk72 rc73, .int .i64 (Mem.ansE (Mem.okL lj) : Int)]) ?_
      refine pT (.slice ra71 rk72 rc73) ?_
      refine pT (.int .i64 (Mem.ansE (Mem.okL lj) : Int)) ?_
      refine pT (.slice ra71 rk72 rc73) ?_
      refine pT (.int .i64 (Mem.ansE (Mem.okL lj) : Int)) ?_
      refine pl_nil ?_
      refine qw_then ?_
      refine cw_clean [5, 6, 7, 12, 13, 17, 19, 21, 23, 24, 25, 26, 27, 28, 29, 30, 31, 32, 33, 89, 90, 91] (ws' := [(5, .int .i64 (i5 : Int)), (6, .int .i64 (i6 : Int)), (7, .int .i64 (i7 : Int)), (12, .pointer (some ⟨O9, 0, none⟩)), (13, .pointer (some ⟨O13, 0, none⟩)), (17, .pointer (some ⟨O17, 0, none⟩)), (19, .bool true), (21, .pointer (some ⟨O36, 0, none⟩)), (23, .slice aj nj cj), (24, .int .i64 (Mem.ansV (Mem.okL lj) ((Mem.mostR lj).1) : Int)), (25, .int .i64 (Mem.ansV (Mem.okL lj) ((Mem.mostR lj).2) : Int)), (26, .int .i64 (Mem.ansE (Mem.okL lj) : Int)), (27, .int .i64 (Mem.ansV (Mem.okL lj) ((Mem.mostR lj).1) : Int)), (28, .int .i64 (Mem.ansV (Mem.okL lj) ((Mem.mostR lj).2) : Int)), (29, .int .i64 (Mem.ansE (Mem.okL lj) : Int)), (30, .slice ra64 rk65 rc66), (31, .int .i64 (Mem.ansE (Mem.okL lj) : Int)), (32, .slice ra71 rk72 rc73), (33, .int .i64 (Mem.ansE (Mem.okL lj) : Int)), (89, .slice (some ⟨O52, 0, none⟩) 3 3), (90, .int .i64 3), (91, .int .i64 (((j : Nat) : Int) : Int))]) (by kernel_rfl) (fun L => ?_)
      refine cw_seq ?_
      refine cw_seq ?_
      refine cw_plain ?_
      refine pT (.int .i64 (Mem.ansV (Mem.okL lj) ((Mem.mostR lj).1) : Int)) ?_
      refine pT (.int .i64 (Mem.ansV (Mem.okL lj) ((Mem.mostR lj).1) : Int)) ?_
      refine pl_take (.bool false) rfl (by kernel_rfl) (by kernel_rfl) (by kernel_rfl) (ev_nne (show _ = Result.ok (Next.value (Value.bool ((Mem.ansV (Mem.okL lj) ((Mem.mostR lj).1) : Int) != (Mem.ansV (Mem.okL lj) ((Mem.mostR lj).1) : Int)))) _ from by kernel_rfl) (rfl)) ?_
      refine pT (.bool false) ?_
      refine pT (.int .i64 (Mem.ansV (Mem.okL lj) ((Mem.mostR lj).2) : Int)) ?_
      refine pT (.int .i64 (Mem.ansV (Mem.okL lj) ((Mem.mostR lj).2) : Int)) ?_
      refine pl_take (.bool false) rfl (by kernel_rfl) (by kernel_rfl) (by kernel_rfl) (ev_nne (show _ = Result.ok (Next.value (Value.bool ((Mem.ansV (Mem.okL lj) ((Mem.mostR lj).2) : Int) != (Mem.ansV (Mem.okL lj) ((Mem.mostR lj).2) : Int)))) _ from by kernel_rfl) (rfl)) ?_
      refine pT (.bool false) ?_
      refine pT (.bool false) ?_
      refine pT (.int .i64 (Mem.ansE (Mem.okL lj) : Int)) ?_
      refine pT (.int .i64 (Mem.ansE (Mem.okL lj) : Int)) ?_
      refine pl_take (.bool false) rfl (by kernel_rfl) (by kernel_rfl) (by kernel_rfl) (ev_nne (show _ = Result.ok (Next.value (Value.bool ((Mem.ansE (Mem.okL lj) : Int) != (Mem.ansE (Mem.okL lj) : Int)))) _ from by kernel_rfl) (rfl)) ?_
      refine pT (.bool false) ?_
      refine pT (.bool false) ?_
      refine pT (.int .i64 (Mem.ansE (Mem.okL lj) : Int)) ?_
      refine pT (.int .i64 (Mem.ansE (Mem.okL lj) : Int)) ?_
      refine pl_take (.bool false) rfl (by kernel_rfl) (by kernel_rfl) (by kernel_rfl) (ev_nne (show _ = Result.ok (Next.value (Value.bool ((Mem.ansE (Mem.okL lj) : Int) != (Mem.ansE (Mem.okL lj) : Int)))) _ from by kernel_rfl) (rfl)) ?_
      refine pT (.bool false) ?_
      refine pT (.bool false) ?_
      refine pT (.slice ra64 rk65 rc66) ?_
      refine pT (.slice ra71 rk72 rc73) ?_
      refine pl_step rfl (by kernel_rfl) (by kernel_rfl) (by kernel_rfl) (sn_call (f := 17) (args := #[.slice ra64 rk65 rc66, .slice ra71 rk72 rc73]) (by kernel_rfl) ((SameRows_r (r := true) _ _ _ hRw67 hX70 hRw74 (Ext.refl _) (fun i _ => rowsU_len _ i) (fun i _ => rowsU_len _ i) (decide_eq_true rfl)).mono ?_))
      rintro e w78 ⟨rfl, hb⟩
      replace hE := hE.trans hb
      replace hX21 := hX21.trans hb
      replace hX34 := hX34.trans hb
      replace hX51 := hX51.trans hb
      replace hX59 := hX59.trans hb
      replace hX70 := hX70.trans hb
      replace hX77 := hX77.trans hb
      replace bO36_0 := BoxAt.ext hb bO36_0
      replace bO36_1 := BoxAt.ext hb bO36_1
      replace bO52_0 := BoxAt.ext hb bO52_0
      replace bO52_1 := BoxAt.ext hb bO52_1
      replace bO52_2 := BoxAt.ext hb bO52_2
      have hs79 := hb.size
      clear hb
      refine ⟨_, rfl, ?_⟩
      refine pT (.bool false) ?_
      refine pT (.bool false) ?_
      refine pT (.bool false) ?_
      refine pT (.slice aj nj cj) ?_
      refine pl_step rfl (by kernel_rfl) (by kernel_rfl) (by kernel_rfl) (sn_call (f := 18) (args := #[.slice aj nj cj]) (by kernel_rfl) ((Valid_c _ _ hLj hX59).mono ?_))
      rintro e w80 ⟨rfl, hb⟩
      replace hE := hE.trans hb
      replace hX21 := hX21.trans hb
      replace hX34 := hX34.trans hb
      replace hX51 := hX51.trans hb
      replace hX59 := hX59.trans hb
      replace hX70 := hX70.trans hb
      replace hX77 := hX77.trans hb
      replace bO36_0 := BoxAt.ext hb bO36_0
      replace bO36_1 := BoxAt.ext hb bO36_1
      replace bO52_0 := BoxAt.ext hb bO52_0
      replace bO52_1 := BoxAt.ext hb bO52_1
      replace bO52_2 := BoxAt.ext hb bO52_2
      have hs81 := hb.size
      clear hb
      refine ⟨_, rfl, ?_⟩
      refine pT (.slice aj nj cj) ?_
      refine pl_step rfl (by kernel_rfl) (by kernel_rfl) (by kernel_rfl) (sn_call (f := 19) (args := #[.slice aj nj cj]) (by kernel_rfl) ((rValid_c _ _ hLj hX59).mono ?_))
      rintro e w82 ⟨rfl, hb⟩
      replace hE := hE.trans hb
      replace hX21 := hX21.trans hb
      replace hX34 := hX34.trans hb
      replace hX51 := hX51.trans hb
      replace hX59 := hX59.trans hb
      replace hX70 := hX70.trans hb
      replace hX77 := hX77.trans hb
      replace bO36_0 := BoxAt.ext hb bO36_0
      replace bO36_1 := BoxAt.ext hb bO36_1
      replace bO52_0 := BoxAt.ext hb bO52_0
      replace bO52_1 := BoxAt.ext hb bO52_1
      replace bO52_2 := BoxAt.ext hb bO52_2
      have hs83 := hb.size
      clear hb
      refine ⟨_, rfl, ?_⟩
      refine pl_take (.bool false) rfl (by kernel_rfl) (by kernel_rfl) (by kernel_rfl) (ev_bool (show _ = Result.ok (Next.value (Value.bool ((Mem.okL lj) != (Mem.okL lj)))) _ from by kernel_rfl) (bne_self_eq_false _)) ?_
      refine pT (.bool false) ?_
      refine pl_nil ?_
      refine qw_then ?_
      refine cw_clean [5, 6, 7, 12, 13, 17, 19, 21, 23, 89, 90, 91, 147] (ws' := [(5, .int .i64 (i5 : Int)), (6, .int .i64 (i6 : Int)), (7, .int .i64 (i7 : Int)), (12, .pointer (some ⟨O9, 0, none⟩)), (13, .pointer (some ⟨O13, 0, none⟩)), (17, .pointer (some ⟨O17, 0, none⟩)), (19, .bool true), (21, .pointer (some ⟨O36, 0, none⟩)), (23, .slice aj nj cj), (89, .slice (some ⟨O52, 0, none⟩) 3 3), (90, .int .i64 3), (91, .int .i64 (((j : Nat) : Int) : Int)), (147, .bool false)]) (by kernel_rfl) (fun L => ?_)
      refine cw_f (by kernel_rfl) ?_
      refine cw_skip ?_
      refine qw_then ?_
      refine cw_seq ?_
      refine cw_plain ?_
      refine pT (.int .i64 (i6 : Int)) ?_
      refine pT (.int .i64 (i7 : Int)) ?_
      refine pT (.agg #[.int .i64 (i6 : Int), .int .i64 (i7 : Int)]) ?_
      refine pT (.int .i64 (i6 : Int)) ?_
      refine pl_step rfl (by kernel_rfl) (by kernel_rfl) (by kernel_rfl) (sn_call (f := 12) (args := #[.int .i64 (i6 : Int), .int .i64 170]) (by kernel_rfl) ((pickv_c i6 170 _ hi6 (by omega) (by omega)).mono ?_))
      rintro e w' ⟨pk84, rfl, hqpk84, rfl⟩
      refine ⟨_, rfl, ?_⟩
      refine pT (.int .i64 (i7 : Int)) ?_
      refine pl_step rfl (by kernel_rfl) (by kernel_rfl) (by kernel_rfl) (sn_call (f := 12) (args := #[.int .i64 (i7 : Int), .int .i64 300]) (by kernel_rfl) ((pickv_c i7 300 _ hi7 (by omega) (by omega)).mono ?_))
      rintro e w' ⟨pk85, rfl, hqpk85, rfl⟩
      refine ⟨_, rfl, ?_⟩
      refine pT (.agg #[.int .i64 (pk84 : Int), .int .i64 (pk85 : Int)]) ?_
      refine pl_step rfl (by kernel_rfl) (by kernel_rfl) (by kernel_rfl) (sn_newS (us := #[.int .i64 (i6 : Int), .int .i64 (i7 : Int), .int .i64 (pk84 : Int), .int .i64 (pk85 : Int)]) (t := 44) (k := 2) (c := 2) (by kernel_rfl) ?_)
      intro O86 X87 hO hOs hb hbx
      have hzO86 := hO; have hyO86 := hOs; clear hO hOs
      have bO86_0 : BoxAt X87 O86 0 (.int .i64 (i6 : Int)) := hbx 0 _ rfl
      have bO86_1 : BoxAt X87 O86 1 (.int .i64 (i7 : Int)) := hbx 1 _ rfl
      have bO86_2 : BoxAt X87 O86 2 (.int .i64 (pk84 : Int)) := hbx 2 _ rfl
      have bO86_3 : BoxAt X87 O86 3 (.int .i64 (pk85 : Int)) := hbx 3 _ rfl
      clear hbx
      replace hE := hE.trans hb
      replace hX21 := hX21.trans hb
      replace hX34 := hX34.trans hb
      replace hX51 := hX51.trans hb
      replace hX59 := hX59.trans hb
      replace hX70 := hX70.trans hb
      replace hX77 := hX77.trans hb
      replace bO36_0 := BoxAt.ext hb bO36_0
      replace bO36_1 := BoxAt.ext hb bO36_1
      replace bO52_0 := BoxAt.ext hb bO52_0
      replace bO52_1 := BoxAt.ext hb bO52_1
      replace bO52_2 := BoxAt.ext hb bO52_2
      have hs88 := hb.size
      clear hb
      have lt89 := bO86_0.lt
      refine pT (.int .i64 2) ?_
      refine pT (.int .i64 0) ?_
      refine pl_nil ?_
      refine qw_then ?_
      refine cw_clean [5, 6, 7, 12, 13, 17, 19, 21, 23, 89, 90, 91, 156, 157, 158] (ws' := [(5, .int .i64 (i5 : Int)), (6, .int .i64 (i6 : Int)), (7, .int .i64 (i7 : Int)), (12, .pointer (some ⟨O9, 0, none⟩)), (13, .pointer (some ⟨O13, 0, none⟩)), (17, .pointer (some ⟨O17, 0, none⟩)), (19, .bool true), (21, .pointer (some ⟨O36, 0, none⟩)), (23, .slice aj nj cj), (89, .slice (some ⟨O52, 0, none⟩) 3 3), (90, .int .i64 3), (91, .int .i64 (((j : Nat) : Int) : Int)), (156, .slice (some ⟨O86, 0, none⟩) 2 2), (157, .int .i64 2), (158, .int .i64 0)]) (by kernel_rfl) (fun L => ?_)
      refine cw_block ?_
      refine cw_loop [5, 6, 7, 12, 13, 17, 19, 21, 23, 89, 90, 91, 156, 157, 158] (fun ws' wr m => ∃ z : Nat, ws' = [(5, .int .i64 (i5 : Int)), (6, .int .i64 (i6 : Int)), (7, .int .i64 (i7 : Int)), (12, .pointer (some ⟨O9, 0, none⟩)), (13, .pointer (some ⟨O13, 0, none⟩)), (17, .pointer (some ⟨O17, 0, none⟩)), (19, .bool true), (21, .pointer (some ⟨O36, 0, none⟩)), (23, .slice aj nj cj), (89, .slice (some ⟨O52, 0, none⟩) 3 3), (90, .int .i64 3), (91, .int .i64 (((j : Nat) : Int) : Int)), (156, .slice (some ⟨O86, 0, none⟩) 2 2), (157, .int .i64 2), (158, .int .i64 (((z : Nat) : Int) : Int))] ∧ m = 2 - z ∧ X87.heap.size ≤ wr.heap.size ∧ Ext w wr ∧ Ext X18 wr ∧ Ext w33 wr ∧ Ext w49 wr ∧ Ext w57 wr ∧ Ext w68 wr ∧ Ext w75 wr ∧ BoxAt wr O36 0 (.int .i64 (pk35 : Int)) ∧ BoxAt wr O36 1 (.int .i64 ((pk35 + 1) + pk44 : Int)) ∧ BoxAt wr O52 0 (.slice a3 k3 c3) ∧ BoxAt wr O52 1 (.slice a1 k1 c1) ∧ BoxAt wr O52 2 (.slice a2 (min n2 25) c2) ∧ BoxAt wr O86 0 (.int .i64 (i6 : Int)) ∧ BoxAt wr O86 1 (.int .i64 (i7 : Int)) ∧ BoxAt wr O86 2 (.int .i64 (pk84 : Int)) ∧ BoxAt wr O86 3 (.int .i64 (pk85 : Int)) ∧ z ≤ 2) (ws0 := [(5, .int .i64 (i5 : Int)), (6, .int .i64 (i6 : Int)), (7, .int .i64 (i7 : Int)), (12, .pointer (some ⟨O9, 0, none⟩)), (13, .pointer (some ⟨O13, 0, none⟩)), (17, .pointer (some ⟨O17, 0, none⟩)), (19, .bool true), (21, .pointer (some ⟨O36, 0, none⟩)), (23, .slice aj nj cj), (89, .slice (some ⟨O52, 0, none⟩) 3 3), (90, .int .i64 3), (91, .int .i64 (((j : Nat) : Int) : Int)), (156, .slice (some ⟨O86, 0, none⟩) 2 2), (157, .int .i64 2), (158, .int .i64 0)]) (by kernel_rfl) _ ⟨0, rfl, rfl, Nat.le_refl _, hE, hX21, hX34, hX51, hX59, hX70, hX77, bO36_0, bO36_1, bO52_0, bO52_1, bO52_2, bO86_0, bO86_1, bO86_2, bO86_3, Nat.zero_le _⟩ ?_
      clear bO36_0 bO36_1 bO52_0 bO52_1 bO52_2 bO86_0 bO86_1 bO86_2 bO86_3 hE hX21 hX34 hX51 hX59 hX70 hX77
      rintro m92 L ws w91 ⟨z, rfl, rfl, hs90, hE, hX21, hX34, hX51, hX59, hX70, hX77, bO36_0, bO36_1, bO52_0, bO52_1, bO52_2, bO86_0, bO86_1, bO86_2, bO86_3, hz⟩
      by_cases hlt : z < 2
      ·
        obtain ⟨zp, zq, hzp, hzq⟩ := sel2P hlt (bO86_0.1) (bO86_1.1) (bO86_2.1) (bO86_3.1)
        have hX93 : Ext w91 w91 := Ext.refl _
        refine cw_seq ?_
        refine cw_plain ?_
        refine pl_take (.bool true) rfl (by kernel_rfl) (by kernel_rfl) (by kernel_rfl) (ev_dec (show _ = Result.ok (Next.value (Value.bool (decide ((((z : Nat) : Int) : Int) < (2 : Int))))) _ from by kernel_rfl) (by omega)) ?_
        refine pl_nil ?_
        refine qw_then ?_
        refine cw_clean [5, 6, 7, 12, 13, 17, 19, 21, 23, 89, 90, 91, 156, 157, 158, 159] (ws' := [(5, .int .i64 (i5 : Int)), (6, .int .i64 (i6 : Int)), (7, .int .i64 (i7 : Int)), (12, .pointer (some ⟨O9, 0, none⟩)), (13, .pointer (some ⟨O13, 0, none⟩)), (17, .pointer (some ⟨O17, 0, none⟩)), (19, .bool true), (21, .pointer (some ⟨O36, 0, none⟩)), (23, .slice aj nj cj), (89, .slice (some ⟨O52, 0, none⟩) 3 3), (90, .int .i64 3), (91, .int .i64 (((j : Nat) : Int) : Int)), (156, .slice (some ⟨O86, 0, none⟩) 2 2), (157, .int .i64 2), (158, .int .i64 (((z : Nat) : Int) : Int)), (159, .bool true)]) (by kernel_rfl) (fun L => ?_)
        refine cw_seq ?_
        refine cw_t (by kernel_rfl) ?_
        refine cw_skip ?_
        refine qw_then ?_
        refine cw_clean [5, 6, 7, 12, 13, 17, 19, 21, 23, 89, 90, 91, 156, 157, 158] (ws' := [(5, .int .i64 (i5 : Int)), (6, .int .i64 (i6 : Int)), (7, .int .i64 (i7 : Int)), (12, .pointer (some ⟨O9, 0, none⟩)), (13, .pointer (some ⟨O13, 0, none⟩)), (17, .pointer (some ⟨O17, 0, none⟩)), (19, .bool true), (21, .pointer (some ⟨O36, 0, none⟩)), (23, .slice aj nj cj), (89, .slice (some ⟨O52, 0, none⟩) 3 3), (90, .int .i64 3), (91, .int .i64 (((j : Nat) : Int) : Int)), (156, .slice (some ⟨O86, 0, none⟩) 2 2), (157, .int .i64 2), (158, .int .i64 (((z : Nat) : Int) : Int))]) (by kernel_rfl) (fun L => ?_)
        refine cw_seq ?_
        refine cw_block ?_
        refine cw_seq ?_
        refine cw_plain ?_
        refine pl_take (.pointer (some ⟨O86, z * 2, none⟩)) rfl (by kernel_rfl) (by kernel_rfl) (by kernel_rfl) (ex_index (p := .slice (some ⟨O86, 0, none⟩) 2 2) (i := .int .i64 ((z : Nat) : Int)) rfl (by kernel_rfl) (by kernel_rfl) (ix45z (k := z) (by omega))) ?_
        refine pl_take (.agg #[.int .i64 (zp : Int), .int .i64 (zq : Int)]) rfl (by kernel_rfl) (by kernel_rfl) (by kernel_rfl) (ex_load rfl (by kernel_rfl) (ld44 (hzp) (hzq))) ?_
        refine pl_step rfl (by kernel_rfl) (by kernel_rfl) (by kernel_rfl) (sn_new (us := #[.int .i64 0, .int .i64 0]) (t := 44) (by kernel_rfl) ?_)
        intro O94 X95 hO hOs hb hbx
        have hzO94 := hO; have hyO94 := hOs; clear hO hOs
        have bO94_0 : BoxAt X95 O94 0 (.int .i64 0) := hbx 0 _ rfl
        have bO94_1 : BoxAt X95 O94 1 (.int .i64 0) := hbx 1 _ rfl
        clear hbx
        replace hE := hE.trans hb
        replace hX21 := hX21.trans hb
        replace hX34 := hX34.trans hb
        replace hX51 := hX51.trans hb
        replace hX59 := hX59.trans hb
        replace hX70 := hX70.trans hb
        replace hX77 := hX77.trans hb
        replace hX93 := hX93.trans hb
        replace bO36_0 := BoxAt.ext hb bO36_0
        replace bO36_1 := BoxAt.ext hb bO36_1
        replace bO52_0 := BoxAt.ext hb bO52_0
        replace bO52_1 := BoxAt.ext hb bO52_1
        replace bO52_2 := BoxAt.ext hb bO52_2
        replace bO86_0 := BoxAt.ext hb bO86_0
        replace bO86_1 := BoxAt.ext hb bO86_1
        replace bO86_2 := BoxAt.ext hb bO86_2
        replace bO86_3 := BoxAt.ext hb bO86_3
        have hs96 := hb.size
        clear hb
        have lt97 := bO94_0.lt
        refine pl_put rfl (by kernel_rfl) (by kernel_rfl) (sn_set2 (O := O94) (j := 0) (v := .int .i64 (zp : Int)) (v' := .int .i64 (zq : Int)) (ex_store (p := .pointer (some ⟨O94, 0, none⟩)) (v := .agg #[.int .i64 (zp : Int), .int .i64 (zq : Int)]) rfl (by kernel_rfl) (by kernel_rfl) (st44 bO94_0.1 bO94_0.2 bO94_1.1 bO94_1.2)) bO94_0 bO94_1 ?_)
        intro X98 ho hv0 hv1 hk
        replace hE := ho.ext hE (Nat.le_trans (Nat.le_trans hs7 (Nat.le_trans hs11 (Nat.le_trans hs15 (Nat.le_trans hs19 (Nat.le_trans hs23 (Nat.le_trans hs25 (Nat.le_trans hs26 (Nat.le_trans hs38 (Nat.le_trans hs41 (Nat.le_trans hs43 (Nat.le_trans hs46 (Nat.le_trans hs48 (Nat.le_trans hs50 (Nat.le_trans hs54 (Nat.le_trans hs56 (Nat.le_trans hs61 (Nat.le_trans hs63 (Nat.le_trans hs69 (Nat.le_trans hs76 (Nat.le_trans hs79 (Nat.le_trans hs81 (Nat.le_trans hs83 (Nat.le_trans hs88 hs90))))))))))))))))))))))) (Nat.le_of_eq hzO94))
        replace hX21 := ho.ext hX21 (Nat.le_trans (Nat.le_trans hs23 (Nat.le_trans hs25 (Nat.le_trans hs26 (Nat.le_trans hs38 (Nat.le_trans hs41 (Nat.le_trans hs43 (Nat.le_trans hs46 (Nat.le_trans hs48 (Nat.le_trans hs50 (Nat.le_trans hs54 (Nat.le_trans hs56 (Nat.le_trans hs61 (Nat.le_trans hs63 (Nat.le_trans hs69 (Nat.le_trans hs76 (Nat.le_trans hs79 (Nat.le_trans hs81 (Nat.le_trans hs83 (Nat.le_trans hs88 hs90))))))))))))))))))) (Nat.le_of_eq hzO94))
        replace hX34 := ho.ext hX34 (Nat.le_trans (Nat.le_trans hs38 (Nat.le_trans hs41 (Nat.le_trans hs43 (Nat.le_trans hs46 (Nat.le_trans hs48 (Nat.le_trans hs50 (Nat.le_trans hs54 (Nat.le_trans hs56 (Nat.le_trans hs61 (Nat.le_trans hs63 (Nat.le_trans hs69 (Nat.le_trans hs76 (Nat.le_trans hs79 (Nat.le_trans hs81 (Nat.le_trans hs83 (Nat.le_trans hs88 hs90)))))))))))))))) (Nat.le_of_eq hzO94))
        replace hX51 := ho.ext hX51 (Nat.le_trans (Nat.le_trans hs54 (Nat.le_trans hs56 (Nat.le_trans hs61 (Nat.le_trans hs63 (Nat.le_trans hs69 (Nat.le_trans hs76 (Nat.le_trans hs79 (Nat.le_trans hs81 (Nat.le_trans hs83 (Nat.le_trans hs88 hs90)))))))))) (Nat.le_of_eq hzO94))
        replace hX59 := ho.ext hX59 (Nat.le_trans (Nat.le_trans hs61 (Nat.le_trans hs63 (Nat.le_trans hs69 (Nat.le_trans hs76 (Nat.le_trans hs79 (Nat.le_trans hs81 (Nat.le_trans hs83 (Nat.le_trans hs88 hs90)))))))) (Nat.le_of_eq hzO94))
        replace hX70 := ho.ext hX70 (Nat.le_trans (Nat.le_trans hs76 (Nat.le_trans hs79 (Nat.le_trans hs81 (Nat.le_trans hs83 (Nat.le_trans hs88 hs90))))) (Nat.le_of_eq hzO94))
        replace hX77 := ho.ext hX77 (Nat.le_trans (Nat.le_trans hs79 (Nat.le_trans hs81 (Nat.le_trans hs83 (Nat.le_trans hs88 hs90)))) (Nat.le_of_eq hzO94))
        replace hX93 := ho.ext hX93 (Nat.le_of_eq hzO94)
        replace bO36_0 := ho.box (Nat.ne_of_gt (Nat.lt_of_lt_of_le lt39 (Nat.le_trans (Nat.le_trans hs41 (Nat.le_trans hs43 (Nat.le_trans hs46 (Nat.le_trans hs48 (Nat.le_trans hs50 (Nat.le_trans hs54 (Nat.le_trans hs56 (Nat.le_trans hs61 (Nat.le_trans hs63 (Nat.le_trans hs69 (Nat.le_trans hs76 (Nat.le_trans hs79 (Nat.le_trans hs81 (Nat.le_trans hs83 (Nat.le_trans hs88 hs90))))))))))))))) (Nat.le_of_eq hzO94)))) bO36_0
        replace bO36_1 := ho.box (Nat.ne_of_gt (Nat.lt_of_lt_of_le lt39 (Nat.le_trans (Nat.le_trans hs41 (Nat.le_trans hs43 (Nat.le_trans hs46 (Nat.le_trans hs48 (Nat.le_trans hs50 (Nat.le_trans hs54 (Nat.le_trans hs56 (Nat.le_trans hs61 (Nat.le_trans hs63 (Nat.le_trans hs69 (Nat.le_trans hs76 (Nat.le_trans hs79 (Nat.le_trans hs81 (Nat.le_trans hs83 (Nat.le_trans hs88 hs90))))))))))))))) (Nat.le_of_eq hzO94)))) bO36_1
        replace bO52_0 := ho.box (Nat.ne_of_gt (Nat.lt_of_lt_of_le lt55 (Nat.le_trans (Nat.le_trans hs56 (Nat.le_trans hs61 (Nat.le_trans hs63 (Nat.le_trans hs69 (Nat.le_trans hs76 (Nat.le_trans hs79 (Nat.le_trans hs81 (Nat.le_trans hs83 (Nat.le_trans hs88 hs90))))))))) (Nat.le_of_eq hzO94)))) bO52_0
        replace bO52_1 := ho.box (Nat.ne_of_gt (Nat.lt_of_lt_of_le lt55 (Nat.le_trans (Nat.le_trans hs56 (Nat.le_trans hs61 (Nat.le_trans hs63 (Nat.le_trans hs69 (Nat.le_trans hs76 (Nat.le_trans hs79 (Nat.le_trans hs81 (Nat.le_trans hs83 (Nat.le_trans hs88 hs90))))))))) (Nat.le_of_eq hzO94)))) bO52_1
        replace bO52_2 := ho.box (Nat.ne_of_gt (Nat.lt_of_lt_of_le lt55 (Nat.le_trans (Nat.le_trans hs56 (Nat.le_trans hs61 (Nat.le_trans hs63 (Nat.le_trans hs69 (Nat.le_trans hs76 (Nat.le_trans hs79 (Nat.le_trans hs81 (Nat.le_trans hs83 (Nat.le_trans hs88 hs90))))))))) (Nat.le_of_eq hzO94)))) bO52_2
        replace bO86_0 := ho.box (Nat.ne_of_gt (Nat.lt_of_lt_of_le lt89 (Nat.le_trans hs90 (Nat.le_of_eq hzO94)))) bO86_0
        replace bO86_1 := ho.box (Nat.ne_of_gt (Nat.lt_of_lt_of_le lt89 (Nat.le_trans hs90 (Nat.le_of_eq hzO94)))) bO86_1
        replace bO86_2 := ho.box (Nat.ne_of_gt (Nat.lt_of_lt_of_le lt89 (Nat.le_trans hs90 (Nat.le_of_eq hzO94)))) bO86_2
        replace bO86_3 := ho.box (Nat.ne_of_gt (Nat.lt_of_lt_of_le lt89 (Nat.le_trans hs90 (Nat.le_of_eq hzO94)))) bO86_3
        have hs99 : X95.heap.size ≤ X98.heap.size := Nat.le_of_eq ho.size.symm
        clear ho hk bO94_0 bO94_1
        have bO94_0 := hv0; clear hv0
        have bO94_1 := hv1; clear hv1
        refine pl_nil ?_
        refine qw_then ?_
        refine cw_clean [5, 6, 7, 12, 13, 17, 19, 21, 23, 35, 89, 90, 91, 156, 157, 158] (ws' := [(5, .int .i64 (i5 : Int)), (6, .int .i64 (i6 : Int)), (7, .int .i64 (i7 : Int)), (12, .pointer (some ⟨O9, 0, none⟩)), (13, .pointer (some ⟨O13, 0, none⟩)), (17, .pointer (some ⟨O17, 0, none⟩)), (19, .bool true), (21, .pointer (some ⟨O36, 0, none⟩)), (23, .slice aj nj cj), (35, .pointer (some ⟨O94, 0, none⟩)), (89, .slice (some ⟨O52, 0, none⟩) 3 3), (90, .int .i64 3), (91, .int .i64 (((j : Nat) : Int) : Int)), (156, .slice (some ⟨O86, 0, none⟩) 2 2), (157, .int .i64 2), (158, .int .i64 (((z : Nat) : Int) : Int))]) (by kernel_rfl) (fun L => ?_)
        refine cw_seq ?_
        refine cw_plain ?_
        refine pT (.slice aj nj cj) ?_
        refine pT (.pointer (some ⟨O94, 0, none⟩)) ?_
        refine pl_take (.int .i64 (zp : Int)) rfl (by kernel_rfl) (by kernel_rfl) (by kernel_rfl) (ex_load rfl (by kernel_rfl) (ld3 (bO94_0.1))) ?_
        refine pl_step rfl (by kernel_rfl) (by kernel_rfl) (by kernel_rfl) (sn_call (f := 20) (args := #[.slice aj nj cj, .int .i64 (zp : Int)]) (by kernel_rfl) ((Fill_c zp _ _ hLj hX59).mono ?_))
        rintro e w100 ⟨rfl, hb⟩
        replace hE := hE.trans hb
        replace hX21 := hX21.trans hb
        replace hX34 := hX34.trans hb
        replace hX51 := hX51.trans hb
        replace hX59 := hX59.trans hb
        replace hX70 := hX70.trans hb
        replace hX77 := hX77.trans hb
        replace hX93 := hX93.trans hb
        replace bO36_0 := BoxAt.ext hb bO36_0
        replace bO36_1 := BoxAt.ext hb bO36_1
        replace bO52_0 := BoxAt.ext hb bO52_0
        replace bO52_1 := BoxAt.ext hb bO52_1
        replace bO52_2 := BoxAt.ext hb bO52_2
        replace bO86_0 := BoxAt.ext hb bO86_0
        replace bO86_1 := BoxAt.ext hb bO86_1
        replace bO86_2 := BoxAt.ext hb bO86_2
        replace bO86_3 := BoxAt.ext hb bO86_3
        replace bO94_0 := BoxAt.ext hb bO94_0
        replace bO94_1 := BoxAt.ext hb bO94_1
        have hs101 := hb.size
        clear hb
        refine ⟨_, rfl, ?_⟩
        refine pT (.tuple #[.int .i64 (Mem.ansV (Mem.okL lj && Globe.inB zp 0 1000000) (Mem.fill lj zp) : Int), .int .i64 (Mem.ansE (Mem.okL lj && Globe.inB zp 0 1000000) : Int)]) ?_
        refine pT (.int .i64 (Mem.ansV (Mem.okL lj && Globe.inB zp 0 1000000) (Mem.fill lj zp) : Int)) ?_
        refine pT (.int .i64 (Mem.ansE (Mem.okL lj && Globe.inB zp 0 1000000) : Int)) ?_
        refine pT (.int .i64 (Mem.ansV (Mem.okL lj && Globe.inB zp 0 1000000) (Mem.fill lj zp) : Int)) ?_
        refine pT (.int .i64 (Mem.ansE (Mem.okL lj && Globe.inB zp 0 1000000) : Int)) ?_
        refine pl_nil ?_
        refine qw_then ?_
        refine cw_clean [5, 6, 7, 12, 13, 17, 19, 21, 23, 35, 36, 37, 89, 90, 91, 156, 157, 158] (ws' := [(5, .int .i64 (i5 : Int)), (6, .int .i64 (i6 : Int)), (7, .int .i64 (i7 : Int)), (12, .pointer (some ⟨O9, 0, none⟩)), (13, .pointer (some ⟨O13, 0, none⟩)), (17, .pointer (some ⟨O17, 0, none⟩)), (19, .bool true), (21, .pointer (some ⟨O36, 0, none⟩)), (23, .slice aj nj cj), (35, .pointer (some ⟨O94, 0, none⟩)), (36, .int .i64 (Mem.ansV (Mem.okL lj && Globe.inB zp 0 1000000) (Mem.fill lj zp) : Int)), (37, .int .i64 (Mem.ansE (Mem.okL lj && Globe.inB zp 0 1000000) : Int)), (89, .slice (some ⟨O52, 0, none⟩) 3 3), (90, .int .i64 3), (91, .int .i64 (((j : Nat) : Int) : Int)), (156, .slice (some ⟨O86, 0, none⟩) 2 2), (157, .int .i64 2), (158, .int .i64 (((z : Nat) : Int) : Int))]) (by kernel_rfl) (fun L => ?_)
        refine cw_seq ?_
        refine cw_plain ?_
        refine pT (.slice aj nj cj) ?_
        refine pT (.pointer (some ⟨O94, 0, none⟩)) ?_
        refine pl_take (.int .i64 (zp : Int)) rfl (by kernel_rfl) (by kernel_rfl) (by kernel_rfl) (ex_load rfl (by kernel_rfl) (ld3 (bO94_0.1))) ?_
        refine pl_step rfl (by kernel_rfl) (by kernel_rfl) (by kernel_rfl) (sn_call (f := 21) (args := #[.slice aj nj cj, .int .i64 (zp : Int)]) (by kernel_rfl) ((rFill_c zp _ _ hLj hX59).mono ?_))
        rintro e w102 ⟨rfl, hb⟩
        replace hE := hE.trans hb
        replace hX21 := hX21.trans hb
        replace hX34 := hX34.trans hb
        replace hX51 := hX51.trans hb
        replace hX59 := hX59.trans hb
        replace hX70 := hX70.trans hb
        replace hX77 := hX77.trans hb
        replace hX93 := hX93.trans hb
        replace bO36_0 := BoxAt.ext hb bO36_0
        replace bO36_1 := BoxAt.ext hb bO36_1
        replace bO52_0 := BoxAt.ext hb bO52_0
        replace bO52_1 := BoxAt.ext hb bO52_1
        replace bO52_2 := BoxAt.ext hb bO52_2
        replace bO86_0 := BoxAt.ext hb bO86_0
        replace bO86_1 := BoxAt.ext hb bO86_1
        replace bO86_2 := BoxAt.ext hb bO86_2
        replace bO86_3 := BoxAt.ext hb bO86_3
        replace bO94_0 := BoxAt.ext hb bO94_0
        replace bO94_1 := BoxAt.ext hb bO94_1
        have hs103 := hb.size
        clear hb
        refine ⟨_, rfl, ?_⟩
        refine pT (.tuple #[.int .i64 (Mem.ansV (Mem.okL lj && Globe.inB zp 0 1000000) (Mem.fill lj zp) : Int), .int .i64 (Mem.ansE (Mem.okL lj && Globe.inB zp 0 1000000) : Int)]) ?_
        refine pT (.int .i64 (Mem.ansV (Mem.okL lj && Globe.inB zp 0 1000000) (Mem.fill lj zp) : Int)) ?_
        refine pT (.int .i64 (Mem.ansE (Mem.okL lj && Globe.inB zp 0 1000000) : Int)) ?_
        refine pT (.int .i64 (Mem.ansV (Mem.okL lj && Globe.inB zp 0 1000000) (Mem.fill lj zp) : Int)) ?_
        refine pT (.int .i64 (Mem.ansE (Mem.okL lj && Globe.inB zp 0 1000000) : Int)) ?_
        refine pl_nil ?_
        refine qw_then ?_
        refine cw_clean [5, 6, 7, 12, 13, 17, 19, 21, 23, 35, 36, 37, 38, 39, 89, 90, 91, 156, 157, 158] (ws' := [(5, .int .i64 (i5 : Int)), (6, .int .i64 (i6 : Int)), (7, .int .i64 (i7 : Int)), (12, .pointer (some ⟨O9, 0, none⟩)), (13, .pointer (some ⟨O13, 0, none⟩)), (17, .pointer (some ⟨O17, 0, none⟩)), (19, .bool true), (21, .pointer (some ⟨O36, 0, none⟩)), (23, .slice aj nj cj), (35, .pointer (some ⟨O94, 0, none⟩)), (36, .int .i64 (Mem.ansV (Mem.okL lj && Globe.inB zp 0 1000000) (Mem.fill lj zp) : Int)), (37, .int .i64 (Mem.ansE (Mem.okL lj && Globe.inB zp 0 1000000) : Int)), (38, .int .i64 (Mem.ansV (Mem.okL lj && Globe.inB zp 0 1000000) (Mem.fill lj zp) : Int)), (39, .int .i64 (Mem.ansE (Mem.okL lj && Globe.inB zp 0 1000000) : Int)), (89, .slice (some ⟨O52, 0, none⟩) 3 3), (90, .int .i64 3), (91, .int .i64 (((j : Nat) : Int) : Int)), (156, .slice (some ⟨O86, 0, none⟩) 2 2), (157, .int .i64 2), (158, .int .i64 (((z : Nat) : Int) : Int))]) (by kernel_rfl) (fun L => ?_)
        refine cw_seq ?_
        refine cw_plain ?_
        refine pT (.slice aj nj cj) ?_
        refine pT (.pointer (some ⟨O94, 1, none⟩)) ?_
        refine pl_take (.int .i64 (zq : Int)) rfl (by kernel_rfl) (by kernel_rfl) (by kernel_rfl) (ex_load rfl (by kernel_rfl) (ld3 (bO94_1.1))) ?_
        refine pl_step rfl (by kernel_rfl) (by kernel_rfl) (by kernel_rfl) (sn_call (f := 22) (args := #[.slice aj nj cj, .int .i64 (zq : Int)]) (by kernel_rfl) ((Over_c zq _ _ hLj hX59).mono ?_))
        rintro e w104 ⟨rfl, hb⟩
        replace hE := hE.trans hb
        replace hX21 := hX21.trans hb
        replace hX34 := hX34.trans hb
        replace hX51 := hX51.trans hb
        replace hX59 := hX59.trans hb
        replace hX70 := hX70.trans hb
        replace hX77 := hX77.trans hb
        replace hX93 := hX93.trans hb
        replace bO36_0 := BoxAt.ext hb bO36_0
        replace bO36_1 := BoxAt.ext hb bO36_1
        replace bO52_0 := BoxAt.ext hb bO52_0
        replace bO52_1 := BoxAt.ext hb bO52_1
        replace bO52_2 := BoxAt.ext hb bO52_2
        replace bO86_0 := BoxAt.ext hb bO86_0
        replace bO86_1 := BoxAt.ext hb bO86_1
        replace bO86_2 := BoxAt.ext hb bO86_2
        replace bO86_3 := BoxAt.ext hb bO86_3
        replace bO94_0 := BoxAt.ext hb bO94_0
        replace bO94_1 := BoxAt.ext hb bO94_1
        have hs105 := hb.size
        clear hb
        refine ⟨_, rfl, ?_⟩
        refine pT (.tuple #[.int .i64 (Mem.ansV (Mem.okL lj && Globe.inB zq 0 1000000) (Mem.overR lj zq) : Int), .int .i64 (Mem.ansE (Mem.okL lj && Globe.inB zq 0 1000000) : Int)]) ?_
        refine pT (.int .i64 (Mem.ansV (Mem.okL lj && Globe.inB zq 0 1000000) (Mem.overR lj zq) : Int)) ?_
        refine pT (.int .i64 (Mem.ansE (Mem.okL lj && Globe.inB zq 0 1000000) : Int)) ?_
        refine pT (.int .i64 (Mem.ansV (Mem.okL lj && Globe.inB zq 0 1000000) (Mem.overR lj zq) : Int)) ?_
        refine pT (.int .i64 (Mem.ansE (Mem.okL lj && Globe.inB zq 0 1000000) : Int)) ?_
        refine pl_nil ?_
        refine qw_then ?_
        refine cw_clean [5, 6, 7, 12, 13, 17, 19, 21, 23, 35, 36, 37, 38, 39, 40, 41, 89, 90, 91, 156, 157, 158] (ws' := [(5, .int .i64 (i5 : Int)), (6, .int .i64 (i6 : Int)), (7, .int .i64 (i7 : Int)), (12, .pointer (some ⟨O9, 0, none⟩)), (13, .pointer (some ⟨O13, 0, none⟩)), (17, .pointer (some ⟨O17, 0, none⟩)), (19, .bool true), (21, .pointer (some ⟨O36, 0, none⟩)), (23, .slice aj nj cj), (35, .pointer (some ⟨O94, 0, none⟩)), (36, .int .i64 (Mem.ansV (Mem.okL lj && Globe.inB zp 0 1000000) (Mem.fill lj zp) : Int)), (37, .int .i64 (Mem.ansE (Mem.okL lj && Globe.inB zp 0 1000000) : Int)), (38, .int .i64 (Mem.ansV (Mem.okL lj && Globe.inB zp 0 1000000) (Mem.fill lj zp) : Int)), (39, .int .i64 (Mem.ansE (Mem.okL lj && Globe.inB zp 0 1000000) : Int)), (40, .int .i64 (Mem.ansV (Mem.okL lj && Globe.inB zq 0 1000000) (Mem.overR lj zq) : Int)), (41, .int .i64 (Mem.ansE (Mem.okL lj && Globe.inB zq 0 1000000) : Int)), (89, .slice (some ⟨O52, 0, none⟩) 3 3), (90, .int .i64 3), (91, .int .i64 (((j : Nat) : Int) : Int)), (156, .slice (some ⟨O86, 0, none⟩) 2 2), (157, .int .i64 2), (158, .int .i64 (((z : Nat) : Int) : Int))]) (by kernel_rfl) (fun L => ?_)
        refine cw_seq ?_
        refine cw_plain ?_
        refine pT (.slice aj nj cj) ?_
        refine pT (.pointer (some ⟨O94, 1, none⟩)) ?_
        refine pl_take (.int .i64 (zq : Int)) rfl (by kernel_rfl) (by kernel_rfl) (by kernel_rfl) (ex_load rfl (by kernel_rfl) (ld3 (bO94_1.1))) ?_
        refine pl_step rfl (by kernel_rfl) (by kernel_rfl) (by kernel_rfl) (sn_call (f := 23) (args := #[.slice aj nj cj, .int .i64 (zq : Int)]) (by kernel_rfl) ((rOver_c zq _ _ hLj hX59).mono ?_))
        rintro e w106 ⟨rfl, hb⟩
        replace hE := hE.trans hb
        replace hX21 := hX21.trans hb
        replace hX34 := hX34.trans hb
        replace hX51 := hX51.trans hb
        replace hX59 := hX59.trans hb
        replace hX70 := hX70.trans hb
        replace hX77 := hX77.trans hb
        replace hX93 := hX93.trans hb
        replace bO36_0 := BoxAt.ext hb bO36_0
        replace bO36_1 := BoxAt.ext hb bO36_1
        replace bO52_0 := BoxAt.ext hb bO52_0
        replace bO52_1 := BoxAt.ext hb bO52_1
        replace bO52_2 := BoxAt.ext hb bO52_2
        replace bO86_0 := BoxAt.ext hb bO86_0
        replace bO86_1 := BoxAt.ext hb bO86_1
        replace bO86_2 := BoxAt.ext hb bO86_2
        replace bO86_3 := BoxAt.ext hb bO86_3
        replace bO94_0 := BoxAt.ext hb bO94_0
        replace bO94_1 := BoxAt.ext hb bO94_1
        have hs107 := hb.size
        clear hb
        refine ⟨_, rfl, ?_⟩
        refine pT (.tuple #[.int .i64 (Mem.ansV (Mem.okL lj && Globe.inB zq 0 1000000) (Mem.overR lj zq) : Int), .int .i64 (Mem.ansE (Mem.okL lj && Globe.inB zq 0 1000000) : Int)]) ?_
        refine pT (.int .i64 (Mem.ansV (Mem.okL lj && Globe.inB zq 0 1000000) (Mem.overR lj zq) : Int)) ?_
        refine pT (.int .i64 (Mem.ansE (Mem.okL lj && Globe.inB zq 0 1000000) : Int)) ?_
        refine pT (.int .i64 (Mem.ansV (Mem.okL lj && Globe.inB zq 0 1000000) (Mem.overR lj zq) : Int)) ?_
        refine pT (.int .i64 (Mem.ansE (Mem.okL lj && Globe.inB zq 0 1000000) : Int)) ?_
        refine pl_nil ?_
        refine qw_then ?_
        refine cw_clean [5, 6, 7, 12, 13, 17, 19, 21, 23, 35, 36, 37, 38, 39, 40, 41, 42, 43, 89, 90, 91, 156, 157, 158] (ws' := [(5, .int .i64 (i5 : Int)), (6, .int .i64 (i6 : Int)), (7, .int .i64 (i7 : Int)), (12, .pointer (some ⟨O9, 0, none⟩)), (13, .pointer (some ⟨O13, 0, none⟩)), (17, .pointer (some ⟨O17, 0, none⟩)), (19, .bool true), (21, .pointer (some ⟨O36, 0, none⟩)), (23, .slice aj nj cj), (35, .pointer (some ⟨O94, 0, none⟩)), (36, .int .i64 (Mem.ansV (Mem.okL lj && Globe.inB zp 0 1000000) (Mem.fill lj zp) : Int)), (37, .int .i64 (Mem.ansE (Mem.okL lj && Globe.inB zp 0 1000000) : Int)), (38, .int .i64 (Mem.ansV (Mem.okL lj && Globe.inB zp 0 1000000) (Mem.fill lj zp) : Int)), (39, .int .i64 (Mem.ansE (Mem.okL lj && Globe.inB zp 0 1000000) : Int)), (40, .int .i64 (Mem.ansV (Mem.okL lj && Globe.inB zq 0 1000000) (Mem.overR lj zq) : Int)), (41, .int .i64 (Mem.ansE (Mem.okL lj && Globe.inB zq 0 1000000) : Int)), (42, .int .i64 (Mem.ansV (Mem.okL lj && Globe.inB zq 0 1000000) (Mem.overR lj zq) : Int)), (43, .int .i64 (Mem.ansE (Mem.okL lj && Globe.inB zq 0 1000000) : Int)), (89, .slice (some ⟨O52, 0, none⟩) 3 3), (90, .int .i64 3), (91, .int .i64 (((j : Nat) : Int) : Int)), (156, .slice (some ⟨O86, 0, none⟩) 2 2), (157, .int .i64 2), (158, .int .i64 (((z : Nat) : Int) : Int))]) (by kernel_rfl) (fun L => ?_)
        refine cw_seq ?_
        refine cw_seq ?_
        refine cw_plain ?_
        refine pT (.int .i64 (Mem.ansV (Mem.okL lj && Globe.inB zp 0 1000000) (Mem.fill lj zp) : Int)) ?_
        refine pT (.int .i64 (Mem.ansV (Mem.okL lj && Globe.inB zp 0 1000000) (Mem.fill lj zp) : Int)) ?_
        refine pl_take (.bool false) rfl (by kernel_rfl) (by kernel_rfl) (by kernel_rfl) (ev_nne (show _ = Result.ok (Next.value (Value.bool ((Mem.ansV (Mem.okL lj && Globe.inB zp 0 1000000) (Mem.fill lj zp) : Int) != (Mem.ansV (Mem.okL lj && Globe.inB zp 0 1000000) (Mem.fill lj zp) : Int)))) _ from by kernel_rfl) (rfl)) ?_
        refine pT (.bool false) ?_
        refine pT (.int .i64 (Mem.ansE (Mem.okL lj && Globe.inB zp 0 1000000) : Int)) ?_
        refine pT (.int .i64 (Mem.ansE (Mem.okL lj && Globe.inB zp 0 1000000) : Int)) ?_
        refine pl_take (.bool false) rfl (by kernel_rfl) (by kernel_rfl) (by kernel_rfl) (ev_nne (show _ = Result.ok (Next.value (Value.bool ((Mem.ansE (Mem.okL lj && Globe.inB zp 0 1000000) : Int) != (Mem.ansE (Mem.okL lj && Globe.inB zp 0 1000000) : Int)))) _ from by kernel_rfl) (rfl)) ?_
        refine pT (.bool false) ?_
        refine pT (.bool false) ?_
        refine pT (.int .i64 (Mem.ansV (Mem.okL lj && Globe.inB zq 0 1000000) (Mem.overR lj zq) : Int)) ?_
        refine pT (.int .i64 (Mem.ansV (Mem.okL lj && Globe.inB zq 0 1000000) (Mem.overR lj zq) : Int)) ?_
        refine pl_take (.bool false) rfl (by kernel_rfl) (by kernel_rfl) (by kernel_rfl) (ev_nne (show _ = Result.ok (Next.value (Value.bool ((Mem.ansV (Mem.okL lj && Globe.inB zq 0 1000000) (Mem.overR lj zq) : Int) != (Mem.ansV (Mem.okL lj && Globe.inB zq 0 1000000) (Mem.overR lj zq) : Int)))) _ from by kernel_rfl) (rfl)) ?_
        refine pT (.bool false) ?_
        refine pT (.bool false) ?_
        refine pT (.int .i64 (Mem.ansE (Mem.okL lj && Globe.inB zq 0 1000000) : Int)) ?_
        refine pT (.int .i64 (Mem.ansE (Mem.okL lj && Globe.inB zq 0 1000000) : Int)) ?_
        refine pl_take (.bool false) rfl (by kernel_rfl) (by kernel_rfl) (by kernel_rfl) (ev_nne (show _ = Result.ok (Next.value (Value.bool ((Mem.ansE (Mem.okL lj && Globe.inB zq 0 1000000) : Int) != (Mem.ansE (Mem.okL lj && Globe.inB zq 0 1000000) : Int)))) _ from by kernel_rfl) (rfl)) ?_
        refine pT (.bool false) ?_
        refine pl_nil ?_
        refine qw_then ?_
        refine cw_clean [5, 6, 7, 12, 13, 17, 19, 21, 23, 35, 89, 90, 91, 156, 157, 158, 207] (ws' := [(5, .int .i64 (i5 : Int)), (6, .int .i64 (i6 : Int)), (7, .int .i64 (i7 : Int)), (12, .pointer (some ⟨O9, 0, none⟩)), (13, .pointer (some ⟨O13, 0, none⟩)), (17, .pointer (some ⟨O17, 0, none⟩)), (19, .bool true), (21, .pointer (some ⟨O36, 0, none⟩)), (23, .slice aj nj cj), (35, .pointer (some ⟨O94, 0, none⟩)), (89, .slice (some ⟨O52, 0, none⟩) 3 3), (90, .int .i64 3), (91, .int .i64 (((j : Nat) : Int) : Int)), (156, .slice (some ⟨O86, 0, none⟩) 2 2), (157, .int .i64 2), (158, .int .i64 (((z : Nat) : Int) : Int)), (207, .bool false)]) (by kernel_rfl) (fun L => ?_)
        refine cw_f (by kernel_rfl) ?_
        refine cw_skip ?_
        refine qw_then ?_
        refine cw_clean [5, 6, 7, 12, 13, 17, 19, 21, 23, 35, 89, 90, 91, 156, 157, 158] (ws' := [(5, .int .i64 (i5 : Int)), (6, .int .i64 (i6 : Int)), (7, .int .i64 (i7 : Int)), (12, .pointer (some ⟨O9, 0, none⟩)), (13, .pointer (some ⟨O13, 0, none⟩)), (17, .pointer (some ⟨O17, 0, none⟩)), (19, .bool true), (21, .pointer (some ⟨O36, 0, none⟩)), (23, .slice aj nj cj), (35, .pointer (some ⟨O94, 0, none⟩)), (89, .slice (some ⟨O52, 0, none⟩) 3 3), (90, .int .i64 3), (91, .int .i64 (((j : Nat) : Int) : Int)), (156, .slice (some ⟨O86, 0, none⟩) 2 2), (157, .int .i64 2), (158, .int .i64 (((z : Nat) : Int) : Int))]) (by kernel_rfl) (fun L => ?_)
        refine cw_seq ?_
        refine cw_plain ?_
        refine pl_take (.agg #[.int .i64 (sf : Int), .int .i64 (sg : Int)]) rfl (by kernel_rfl) (by kernel_rfl) (by kernel_rfl) (ex_load rfl (by kernel_rfl) (ld24 ((BoxAt.ext hX21 bO17_0).1) ((BoxAt.ext hX21 bO17_1).1))) ?_
        refine pl_take (.agg #[.int .i64 (pk35 : Int), .int .i64 ((pk35 + 1) + pk44 : Int)]) rfl (by kernel_rfl) (by kernel_rfl) (by kernel_rfl) (ex_load rfl (by kernel_rfl) (ld24 (bO36_0.1) (bO36_1.1))) ?_
        refine pl_step rfl (by kernel_rfl) (by kernel_rfl) (by kernel_rfl) (sn_newS (us := #[.int .i64 (sf : Int), .int .i64 (sg : Int), .int .i64 (pk35 : Int), .int .i64 ((pk35 + 1) + pk44 : Int)]) (t := 24) (k := 2) (c := 2) (by kernel_rfl) ?_)
        intro O108 X109 hO hOs hb hbx
        have hzO108 := hO; have hyO108 := hOs; clear hO hOs
        have bO108_0 : BoxAt X109 O108 0 (.int .i64 (sf : Int)) := hbx 0 _ rfl
        have bO108_1 : BoxAt X109 O108 1 (.int .i64 (sg : Int)) := hbx 1 _ rfl
        have bO108_2 : BoxAt X109 O108 2 (.int .i64 (pk35 : Int)) := hbx 2 _ rfl
        have bO108_3 : BoxAt X109 O108 3 (.int .i64 ((pk35 + 1) + pk44 : Int)) := hbx 3 _ rfl
        clear hbx
        replace hE := hE.trans hb
        replace hX21 := hX21.trans hb
        replace hX34 := hX34.trans hb
        replace hX51 := hX51.trans hb
        replace hX59 := hX59.trans hb
        replace hX70 := hX70.trans hb
        replace hX77 := hX77.trans hb
        replace hX93 := hX93.trans hb
        replace bO36_0 := BoxAt.ext hb bO36_0
        replace bO36_1 := BoxAt.ext hb bO36_1
        replace bO52_0 := BoxAt.ext hb bO52_0
        replace bO52_1 := BoxAt.ext hb bO52_1
        replace bO52_2 := BoxAt.ext hb bO52_2
        replace bO86_0 := BoxAt.ext hb bO86_0
        replace bO86_1 := BoxAt.ext hb bO86_1
        replace bO86_2 := BoxAt.ext hb bO86_2
        replace bO86_3 := BoxAt.ext hb bO86_3
        replace bO94_0 := BoxAt.ext hb bO94_0
        replace bO94_1 := BoxAt.ext hb bO94_1
        have hs110 := hb.size
        clear hb
        have lt111 := bO108_0.lt
        refine pT (.int .i64 2) ?_
        refine pT (.int .i64 0) ?_
        refine pl_nil ?_
        refine qw_then ?_
        refine cw_clean [5, 6, 7, 12, 13, 17, 19, 21, 23, 35, 89, 90, 91, 156, 157, 158, 210, 211, 212] (ws' := [(5, .int .i64 (i5 : Int)), (6, .int .i64 (i6 : Int)), (7, .int .i64 (i7 : Int)), (12, .pointer (some ⟨O9, 0, none⟩)), (13, .pointer (some ⟨O13, 0, none⟩)), (17, .pointer (some ⟨O17, 0, none⟩)), (19, .bool true), (21, .pointer (some ⟨O36, 0, none⟩)), (23, .slice aj nj cj), (35, .pointer (some ⟨O94, 0, none⟩)), (89, .slice (some ⟨O52, 0, none⟩) 3 3), (90, .int .i64 3), (91, .int .i64 (((j : Nat) : Int) : Int)), (156, .slice (some ⟨O86, 0, none⟩) 2 2), (157, .int .i64 2), (158, .int .i64 (((z : Nat) : Int) : Int)), (210, .slice (some ⟨O108, 0, none⟩) 2 2), (211, .int .i64 2), (212, .int .i64 0)]) (by kernel_rfl) (fun L => ?_)
        refine cw_block ?_
        refine cw_loop [5, 6, 7, 12, 13, 17, 19, 21, 23, 35, 89, 90, 91, 156, 157, 158, 210, 211, 212] (fun ws' wr m => ∃ yy : Nat, ws' = [(5, .int .i64 (i5 : Int)), (6, .int .i64 (i6 : Int)), (7, .int .i64 (i7 : Int)), (12, .pointer (some ⟨O9, 0, none⟩)), (13, .pointer (some ⟨O13, 0, none⟩)), (17, .pointer (some ⟨O17, 0, none⟩)), (19, .bool true), (21, .pointer (some ⟨O36, 0, none⟩)), (23, .slice aj nj cj), (35, .pointer (some ⟨O94, 0, none⟩)), (89, .slice (some ⟨O52, 0, none⟩) 3 3), (90, .int .i64 3), (91, .int .i64 (((j : Nat) : Int) : Int)), (156, .slice (some ⟨O86, 0, none⟩) 2 2), (157, .int .i64 2), (158, .int .i64 (((z : Nat) : Int) : Int)), (210, .slice (some ⟨O108, 0, none⟩) 2 2), (211, .int .i64 2), (212, .int .i64 (((yy : Nat) : Int) : Int))] ∧ m = 2 - yy ∧ X109.heap.size ≤ wr.heap.size ∧ Ext w wr ∧ Ext X18 wr ∧ Ext w33 wr ∧ Ext w49 wr ∧ Ext w57 wr ∧ Ext w68 wr ∧ Ext w75 wr ∧ Ext w91 wr ∧ BoxAt wr O36 0 (.int .i64 (pk35 : Int)) ∧ BoxAt wr O36 1 (.int .i64 ((pk35 + 1) + pk44 : Int)) ∧ BoxAt wr O52 0 (.slice a3 k3 c3) ∧ BoxAt wr O52 1 (.slice a1 k1 c1) ∧ BoxAt wr O52 2 (.slice a2 (min n2 25) c2) ∧ BoxAt wr O86 0 (.int .i64 (i6 : Int)) ∧ BoxAt wr O86 1 (.int .i64 (i7 : Int)) ∧ BoxAt wr O86 2 (.int .i64 (pk84 : Int)) ∧ BoxAt wr O86 3 (.int .i64 (pk85 : Int)) ∧ BoxAt wr O94 0 (.int .i64 (zp : Int)) ∧ BoxAt wr O94 1 (.int .i64 (zq : Int)) ∧ BoxAt wr O108 0 (.int .i64 (sf : Int)) ∧ BoxAt wr O108 1 (.int .i64 (sg : Int)) ∧ BoxAt wr O108 2 (.int .i64 (pk35 : Int)) ∧ BoxAt wr O108 3 (.int .i64 ((pk35 + 1) + pk44 : Int)) ∧ yy ≤ 2) (ws0 := [(5, .int .i64 (i5 : Int)), (6, .int .i64 (i6 : Int)), (7, .int .i64 (i7 : Int)), (12, .pointer (some ⟨O9, 0, none⟩)), (13, .pointer (some ⟨O13, 0, none⟩)), (17, .pointer (some ⟨O17, 0, none⟩)), (19, .bool true), (21, .pointer (some ⟨O36, 0, none⟩)), (23, .slice aj nj cj), (35, .pointer (some ⟨O94, 0, none⟩)), (89, .slice (some ⟨O52, 0, none⟩) 3 3), (90, .int .i64 3), (91, .int .i64 (((j : Nat) : Int) : Int)), (156, .slice (some ⟨O86, 0, none⟩) 2 2), (157, .int .i64 2), (158, .int .i64 (((z : Nat) : Int) : Int)), (210, .slice (some ⟨O108, 0, none⟩) 2 2), (211, .int .i64 2), (212, .int .i64 0)]) (by kernel_rfl) _ ⟨0, rfl, rfl, Nat.le_refl _, hE, hX21, hX34, hX51, hX59, hX70, hX77, hX93, bO36_0, bO36_1, bO52_0, bO52_1, bO52_2, bO86_0, bO86_1, bO86_2, bO86_3, bO94_0, bO94_1, bO108_0, bO108_1, bO108_2, bO108_3, Nat.zero_le _⟩ ?_
        clear bO36_0 bO36_1 bO52_0 bO52_1 bO52_2 bO86_0 bO86_1 bO86_2 bO86_3 bO94_0 bO94_1 bO108_0 bO108_1 bO108_2 bO108_3 hE hX21 hX34 hX51 hX59 hX70 hX77 hX93
        rintro m114 L ws w113 ⟨yy, rfl, rfl, hs112, hE, hX21, hX34, hX51, hX59, hX70, hX77, hX93, bO36_0, bO36_1, bO52_0, bO52_1, bO52_2, bO86_0, bO86_1, bO86_2, bO86_3, bO94_0, bO94_1, bO108_0, bO108_1, bO108_2, bO108_3, hyy⟩
        by_cases hlt : yy < 2
        ·
          obtain ⟨yp, yq, hyp, hyq⟩ := sel2P hlt (bO108_0.1) (bO108_1.1) (bO108_2.1) (bO108_3.1)
          have hX115 : Ext w113 w113 := Ext.refl _
          refine cw_seq ?_
          refine cw_plain ?_
          refine pl_take (.bool true) rfl (by kernel_rfl) (by kernel_rfl) (by kernel_rfl) (ev_dec (show _ = Result.ok (Next.value (Value.bool (decide ((((yy : Nat) : Int) : Int) < (2 : Int))))) _ from by kernel_rfl) (by omega)) ?_
          refine pl_nil ?_
          refine qw_then ?_
          refine cw_clean [5, 6, 7, 12, 13, 17, 19, 21, 23, 35, 89, 90, 91, 156, 157, 158, 210, 211, 212, 213] (ws' := [(5, .int .i64 (i5 : Int)), (6, .int .i64 (i6 : Int)), (7, .int .i64 (i7 : Int)), (12, .pointer (some ⟨O9, 0, none⟩)), (13, .pointer (some ⟨O13, 0, none⟩)), (17, .pointer (some ⟨O17, 0, none⟩)), (19, .bool true), (21, .pointer (some ⟨O36, 0, none⟩)), (23, .slice aj nj cj), (35, .pointer (some ⟨O94, 0, none⟩)), (89, .slice (some ⟨O52, 0, none⟩) 3 3), (90, .int .i64 3), (91, .int .i64 (((j : Nat) : Int) : Int)), (156, .slice (some ⟨O86, 0, none⟩) 2 2), (157, .int .i64 2), (158, .int .i64 (((z : Nat) : Int) : Int)), (210, .slice (some ⟨O108, 0, none⟩) 2 2), (211, .int .i64 2), (212, .int .i64 (((yy : Nat) : Int) : Int)), (213, .bool true)]) (by kernel_rfl) (fun L => ?_)
          refine cw_seq ?_
          refine cw_t (by kernel_rfl) ?_
          refine cw_skip ?_
          refine qw_then ?_
          refine cw_clean [5, 6, 7, 12, 13, 17, 19, 21, 23, 35, 89, 90, 91, 156, 157, 158, 210, 211, 212] (ws' := [(5, .int .i64 (i5 : Int)), (6, .int .i64 (i6 : Int)), (7, .int .i64 (i7 : Int)), (12, .pointer (some ⟨O9, 0, none⟩)), (13, .pointer (some ⟨O13, 0, none⟩)), (17, .pointer (some ⟨O17, 0, none⟩)), (19, .bool true), (21, .pointer (some ⟨O36, 0, none⟩)), (23, .slice aj nj cj), (35, .pointer (some ⟨O94, 0, none⟩)), (89, .slice (some ⟨O52, 0, none⟩) 3 3), (90, .int .i64 3), (91, .int .i64 (((j : Nat) : Int) : Int)), (156, .slice (some ⟨O86, 0, none⟩) 2 2), (157, .int .i64 2), (158, .int .i64 (((z : Nat) : Int) : Int)), (210, .slice (some ⟨O108, 0, none⟩) 2 2), (211, .int .i64 2), (212, .int .i64 (((yy : Nat) : Int) : Int))]) (by kernel_rfl) (fun L => ?_)
          refine cw_seq ?_
          refine cw_block ?_
          refine cw_seq ?_
          refine cw_plain ?_
          refine pl_take (.pointer (some ⟨O108, yy * 2, none⟩)) rfl (by kernel_rfl) (by kernel_rfl) (by kernel_rfl) (ex_index (p := .slice (some ⟨O108, 0, none⟩) 2 2) (i := .int .i64 ((yy : Nat) : Int)) rfl (by kernel_rfl) (by kernel_rfl) (ix48z (k := yy) (by omega))) ?_
          refine pl_take (.agg #[.int .i64 (yp : Int), .int .i64 (yq : Int)]) rfl (by kernel_rfl) (by kernel_rfl) (by kernel_rfl) (ex_load rfl (by kernel_rfl) (ld24 (hyp) (hyq))) ?_
          refine pl_step rfl (by kernel_rfl) (by kernel_rfl) (by kernel_rfl) (sn_new (us := #[.int .i64 0, .int .i64 0]) (t := 24) (by kernel_rfl) ?_)
          intro O116 X117 hO hOs hb hbx
          have hzO116 := hO; have hyO116 := hOs; clear hO hOs
          have bO116_0 : BoxAt X117 O116 0 (.int .i64 0) := hbx 0 _ rfl
          have bO116_1 : BoxAt X117 O116 1 (.int .i64 0) := hbx 1 _ rfl
          clear hbx
          replace hE := hE.trans hb
          replace hX21 := hX21.trans hb
          replace hX34 := hX34.trans hb
          replace hX51 := hX51.trans hb
          replace hX59 := hX59.trans hb
          replace hX70 := hX70.trans hb
          replace hX77 := hX77.trans hb
          replace hX93 := hX93.trans hb
          replace hX115 := hX115.trans hb
          replace bO36_0 := BoxAt.ext hb bO36_0
          replace bO36_1 := BoxAt.ext hb bO36_1
          replace bO52_0 := BoxAt.ext hb bO52_0
          replace bO52_1 := BoxAt.ext hb bO52_1
          replace bO52_2 := BoxAt.ext hb bO52_2
          replace bO86_0 := BoxAt.ext hb bO86_0
          replace bO86_1 := BoxAt.ext hb bO86_1
          replace bO86_2 := BoxAt.ext hb bO86_2
          replace bO86_3 := BoxAt.ext hb bO86_3
          replace bO94_0 := BoxAt.ext hb bO94_0
          replace bO94_1 := BoxAt.ext hb bO94_1
          replace bO108_0 := BoxAt.ext hb bO108_0
          replace bO108_1 := BoxAt.ext hb bO108_1
          replace bO108_2 := BoxAt.ext hb bO108_2
          replace bO108_3 := BoxAt.ext hb bO108_3
          have hs118 := hb.size
          clear hb
          have lt119 := bO116_0.lt
          refine pl_put rfl (by kernel_rfl) (by kernel_rfl) (sn_set2 (O := O116) (j := 0) (v := .int .i64 (yp : Int)) (v' := .int .i64 (yq : Int)) (ex_store (p := .pointer (some ⟨O116, 0, none⟩)) (v := .agg #[.int .i64 (yp : Int), .int .i64 (yq : Int)]) rfl (by kernel_rfl) (by kernel_rfl) (st24 bO116_0.1 bO116_0.2 bO116_1.1 bO116_1.2)) bO116_0 bO116_1 ?_)
          intro X120 ho hv0 hv1 hk
          replace hE := ho.ext hE (Nat.le_trans (Nat.le_trans hs7 (Nat.le_trans hs11 (Nat.le_trans hs15 (Nat.le_trans hs19 (Nat.le_trans hs23 (Nat.le_trans hs25 (Nat.le_trans hs26 (Nat.le_trans hs38 (Nat.le_trans hs41 (Nat.le_trans hs43 (Nat.le_trans hs46 (Nat.le_trans hs48 (Nat.le_trans hs50 (Nat.le_trans hs54 (Nat.le_trans hs56 (Nat.le_trans hs61 (Nat.le_trans hs63 (Nat.le_trans hs69 (Nat.le_trans hs76 (Nat.le_trans hs79 (Nat.le_trans hs81 (Nat.le_trans hs83 (Nat.le_trans hs88 (Nat.le_trans hs90 (Nat.le_trans hs96 (Nat.le_trans hs99 (Nat.le_trans hs101 (Nat.le_trans hs103 (Nat.le_trans hs105 (Nat.le_trans hs107 (Nat.le_trans hs110 hs112))))))))))))))))))))))))))))))) (Nat.le_of_eq hzO116))
          replace hX21 := ho.ext hX21 (Nat.le_trans (Nat.le_trans hs23 (Nat.le_trans hs25 (Nat.le_trans hs26 (Nat.le_trans hs38 (Nat.le_trans hs41 (Nat.le_trans hs43 (Nat.le_trans hs46 (Nat.le_trans hs48 (Nat.le_trans hs50 (Nat.le_trans hs54 (Nat.le_trans hs56 (Nat.le_trans hs61 (Nat.le_trans hs63 (Nat.le_trans hs69 (Nat.le_trans hs76 (Nat.le_trans hs79 (Nat.le_trans hs81 (Nat.le_trans hs83 (Nat.le_trans hs88 (Nat.le_trans hs90 (Nat.le_trans hs96 (Nat.le_trans hs99 (Nat.le_trans hs101 (Nat.le_trans hs103 (Nat.le_trans hs105 (Nat.le_trans hs107 (Nat.le_trans hs110 hs112))))))))))))))))))))))))))) (Nat.le_of_eq hzO116))
          replace hX34 := ho.ext hX34 (Nat.le_trans (Nat.le_trans hs38 (Nat.le_trans hs41 (Nat.le_trans hs43 (Nat.le_trans hs46 (Nat.le_trans hs48 (Nat.le_trans hs50 (Nat.le_trans hs54 (Nat.le_trans hs56 (Nat.le_trans hs61 (Nat.le_trans hs63 (Nat.le_trans hs69 (Nat.le_trans hs76 (Nat.le_trans hs79 (Nat.le_trans hs81 (Nat.le_trans hs83 (Nat.le_trans hs88 (Nat.le_trans hs90 (Nat.le_trans hs96 (Nat.le_trans hs99 (Nat.le_trans hs101 (Nat.le_trans hs103 (Nat.le_trans hs105 (Nat.le_trans hs107 (Nat.le_trans hs110 hs112)))))))))))))))))))))))) (Nat.le_of_eq hzO116))
          replace hX51 := ho.ext hX51 (Nat.le_trans (Nat.le_trans hs54 (Nat.le_trans hs56 (Nat.le_trans hs61 (Nat.le_trans hs63 (Nat.le_trans hs69 (Nat.le_trans hs76 (Nat.le_trans hs79 (Nat.le_trans hs81 (Nat.le_trans hs83 (Nat.le_trans hs88 (Nat.le_trans hs90 (Nat.le_trans hs96 (Nat.le_trans hs99 (Nat.le_trans hs101 (Nat.le_trans hs103 (Nat.le_trans hs105 (Nat.le_trans hs107 (Nat.le_trans hs110 hs112)))))))))))))))))) (Nat.le_of_eq hzO116))
          replace hX59 := ho.ext hX59 (Nat.le_trans (Nat.le_trans hs61 (Nat.le_trans hs63 (Nat.le_trans hs69 (Nat.le_trans hs76 (Nat.le_trans hs79 (Nat.le_trans hs81 (Nat.le_trans hs83 (Nat.le_trans hs88 (Nat.le_trans hs90 (Nat.le_trans hs96 (Nat.le_trans hs99 (Nat.le_trans hs101 (Nat.le_trans hs103 (Nat.le_trans hs105 (Nat.le_trans hs107 (Nat.le_trans hs110 hs112)))))))))))))))) (Nat.le_of_eq hzO116))
          replace hX70 := ho.ext hX70 (Nat.le_trans (Nat.le_trans hs76 (Nat.le_trans hs79 (Nat.le_trans hs81 (Nat.le_trans hs83 (Nat.le_trans hs88 (Nat.le_trans hs90 (Nat.le_trans hs96 (Nat.le_trans hs99 (Nat.le_trans hs101 (Nat.le_trans hs103 (Nat.le_trans hs105 (Nat.le_trans hs107 (Nat.le_trans hs110 hs112))))))))))))) (Nat.le_of_eq hzO116))
          replace hX77 := ho.ext hX77 (Nat.le_trans (Nat.le_trans hs79 (Nat.le_trans hs81 (Nat.le_trans hs83 (Nat.le_trans hs88 (Nat.le_trans hs90 (Nat.le_trans hs96 (Nat.le_trans hs99 (Nat.le_trans hs101 (Nat.le_trans hs103 (Nat.le_trans hs105 (Nat.le_trans hs107 (Nat.le_trans hs110 hs112)))))))))))) (Nat.le_of_eq hzO116))
          replace hX93 := ho.ext hX93 (Nat.le_trans (Nat.le_trans hs96 (Nat.le_trans hs99 (Nat.le_trans hs101 (Nat.le_trans hs103 (Nat.le_trans hs105 (Nat.le_trans hs107 (Nat.le_trans hs110 hs112))))))) (Nat.le_of_eq hzO116))
          replace hX115 := ho.ext hX115 (Nat.le_of_eq hzO116)
          replace bO36_0 := ho.box (Nat.ne_of_gt (Nat.lt_of_lt_of_le lt39 (Nat.le_trans (Nat.le_trans hs41 (Nat.le_trans hs43 (Nat.le_trans hs46 (Nat.le_trans hs48 (Nat.le_trans hs50 (Nat.le_trans hs54 (Nat.le_trans hs56 (Nat.le_trans hs61 (Nat.le_trans hs63 (Nat.le_trans hs69 (Nat.le_trans hs76 (Nat.le_trans hs79 (Nat.le_trans hs81 (Nat.le_trans hs83 (Nat.le_trans hs88 (Nat.le_trans hs90 (Nat.le_trans hs96 (Nat.le_trans hs99 (Nat.le_trans hs101 (Nat.le_trans hs103 (Nat.le_trans hs105 (Nat.le_trans hs107 (Nat.le_trans hs110 hs112))))))))))))))))))))))) (Nat.le_of_eq hzO116)))) bO36_0
          replace bO36_1 := ho.box (Nat.ne_of_gt (Nat.lt_of_lt_of_le lt39 (Nat.le_trans (Nat.le_trans hs41 (Nat.le_trans hs43 (Nat.le_trans hs46 (Nat.le_trans hs48 (Nat.le_trans hs50 (Nat.le_trans hs54 (Nat.le_trans hs56 (Nat.le_trans hs61 (Nat.le_trans hs63 (Nat.le_trans hs69 (Nat.le_trans hs76 (Nat.le_trans hs79 (Nat.le_trans hs81 (Nat.le_trans hs83 (Nat.le_trans hs88 (Nat.le_trans hs90 (Nat.le_trans hs96 (Nat.le_trans hs99 (Nat.le_trans hs101 (Nat.le_trans hs103 (Nat.le_trans hs105 (Nat.le_trans hs107 (Nat.le_trans hs110 hs112))))))))))))))))))))))) (Nat.le_of_eq hzO116)))) bO36_1
          replace bO52_0 := ho.box (Nat.ne_of_gt (Nat.lt_of_lt_of_le lt55 (Nat.le_trans (Nat.le_trans hs56 (Nat.le_trans hs61 (Nat.le_trans hs63 (Nat.le_trans hs69 (Nat.le_trans hs76 (Nat.le_trans hs79 (Nat.le_trans hs81 (Nat.le_trans hs83 (Nat.le_trans hs88 (Nat.le_trans hs90 (Nat.le_trans hs96 (Nat.le_trans hs99 (Nat.le_trans hs101 (Nat.le_trans hs103 (Nat.le_trans hs105 (Nat.le_trans hs107 (Nat.le_trans hs110 hs112))))))))))))))))) (Nat.le_of_eq hzO116)))) bO52_0
          replace bO52_1 := ho.box (Nat.ne_of_gt (Nat.lt_of_lt_of_le lt55 (Nat.le_trans (Nat.le_trans hs56 (Nat.le_trans hs61 (Nat.le_trans hs63 (Nat.le_trans hs69 (Nat.le_trans hs76 (Nat.le_trans hs79 (Nat.le_trans hs81 (Nat.le_trans hs83 (Nat.le_trans hs88 (Nat.le_trans hs90 (Nat.le_trans hs96 (Nat.le_trans hs99 (Nat.le_trans hs101 (Nat.le_trans hs103 (Nat.le_trans hs105 (Nat.le_trans hs107 (Nat.le_trans hs110 hs112))))))))))))))))) (Nat.le_of_eq hzO116)))) bO52_1
          replace bO52_2 := ho.box (Nat.ne_of_gt (Nat.lt_of_lt_of_le lt55 (Nat.le_trans (Nat.le_trans hs56 (Nat.le_trans hs61 (Nat.le_trans hs63 (Nat.le_trans hs69 (Nat.le_trans hs76 (Nat.le_trans hs79 (Nat.le_trans hs81 (Nat.le_trans hs83 (Nat.le_trans hs88 (Nat.le_trans hs90 (Nat.le_trans hs96 (Nat.le_trans hs99 (Nat.le_trans hs101 (Nat.le_trans hs103 (Nat.le_trans hs105 (Nat.le_trans hs107 (Nat.le_trans hs110 hs112))))))))))))))))) (Nat.le_of_eq hzO116)))) bO52_2
          replace bO86_0 := ho.box (Nat.ne_of_gt (Nat.lt_of_lt_of_le lt89 (Nat.le_trans (Nat.le_trans hs90 (Nat.le_trans hs96 (Nat.le_trans hs99 (Nat.le_trans hs101 (Nat.le_trans hs103 (Nat.le_trans hs105 (Nat.le_trans hs107 (Nat.le_trans hs110 hs112)))))))) (Nat.le_of_eq hzO116)))) bO86_0
          replace bO86_1 := ho.box (Nat.ne_of_gt (Nat.lt_of_lt_of_le lt89 (Nat.le_trans (Nat.le_trans hs90 (Nat.le_trans hs96 (Nat.le_trans hs99 (Nat.le_trans hs101 (Nat.le_trans hs103 (Nat.le_trans hs105 (Nat.le_trans hs107 (Nat.le_trans hs110 hs112)))))))) (Nat.le_of_eq hzO116)))) bO86_1
          replace bO86_2 := ho.box (Nat.ne_of_gt (Nat.lt_of_lt_of_le lt89 (Nat.le_trans (Nat.le_trans hs90 (Nat.le_trans hs96 (Nat.le_trans hs99 (Nat.le_trans hs101 (Nat.le_trans hs103 (Nat.le_trans hs105 (Nat.le_trans hs107 (Nat.le_trans hs110 hs112)))))))) (Nat.le_of_eq hzO116)))) bO86_2
          replace bO86_3 := ho.box (Nat.ne_of_gt (Nat.lt_of_lt_of_le lt89 (Nat.le_trans (Nat.le_trans hs90 (Nat.le_trans hs96 (Nat.le_trans hs99 (Nat.le_trans hs101 (Nat.le_trans hs103 (Nat.le_trans hs105 (Nat.le_trans hs107 (Nat.le_trans hs110 hs112)))))))) (Nat.le_of_eq hzO116)))) bO86_3
          replace bO94_0 := ho.box (Nat.ne_of_gt (Nat.lt_of_lt_of_le lt97 (Nat.le_trans (Nat.le_trans hs99 (Nat.le_trans hs101 (Nat.le_trans hs103 (Nat.le_trans hs105 (Nat.le_trans hs107 (Nat.le_trans hs110 hs112)))))) (Nat.le_of_eq hzO116)))) bO94_0
          replace bO94_1 := ho.box (Nat.ne_of_gt (Nat.lt_of_lt_of_le lt97 (Nat.le_trans (Nat.le_trans hs99 (Nat.le_trans hs101 (Nat.le_trans hs103 (Nat.le_trans hs105 (Nat.le_trans hs107 (Nat.le_trans hs110 hs112)))))) (Nat.le_of_eq hzO116)))) bO94_1
          replace bO108_0 := ho.box (Nat.ne_of_gt (Nat.lt_of_lt_of_le lt111 (Nat.le_trans hs112 (Nat.le_of_eq hzO116)))) bO108_0
          replace bO108_1 := ho.box (Nat.ne_of_gt (Nat.lt_of_lt_of_le lt111 (Nat.le_trans hs112 (Nat.le_of_eq hzO116)))) bO108_1
          replace bO108_2 := ho.box (Nat.ne_of_gt (Nat.lt_of_lt_of_le lt111 (Nat.le_trans hs112 (Nat.le_of_eq hzO116)))) bO108_2
          replace bO108_3 := ho.box (Nat.ne_of_gt (Nat.lt_of_lt_of_le lt111 (Nat.le_trans hs112 (Nat.le_of_eq hzO116)))) bO108_3
          have hs121 : X117.heap.size ≤ X120.heap.size := Nat.le_of_eq ho.size.symm
          clear ho hk bO116_0 bO116_1
          have bO116_0 := hv0; clear hv0
          have bO116_1 := hv1; clear hv1
          refine pl_nil ?_
          refine qw_then ?_
          refine cw_clean [5, 6, 7, 12, 13, 17, 19, 21, 23, 35, 45, 89, 90, 91, 156, 157, 158, 210, 211, 212] (ws' := [(5, .int .i64 (i5 : Int)), (6, .int .i64 (i6 : Int)), (7, .int .i64 (i7 : Int)), (12, .pointer (some ⟨O9, 0, none⟩)), (13, .pointer (some ⟨O13, 0, none⟩)), (17, .pointer (some ⟨O17, 0, none⟩)), (19, .bool true), (21, .pointer (some ⟨O36, 0, none⟩)), (23, .slice aj nj cj), (35, .pointer (some ⟨O94, 0, none⟩)), (45, .pointer (some ⟨O116, 0, none⟩)), (89, .slice (some ⟨O52, 0, none⟩) 3 3), (90, .int .i64 3), (91, .int .i64 (((j : Nat) : Int) : Int)), (156, .slice (some ⟨O86, 0, none⟩) 2 2), (157, .int .i64 2), (158, .int .i64 (((z : Nat) : Int) : Int)), (210, .slice (some ⟨O108, 0, none⟩) 2 2), (211, .int .i64 2), (212, .int .i64 (((yy : Nat) : Int) : Int))]) (by kernel_rfl) (fun L => ?_)
          refine cw_seq ?_
          refine cw_plain ?_
          refine pT (.slice aj nj cj) ?_
          refine pT (.pointer (some ⟨O94, 1, none⟩)) ?_
          refine pl_take (.int .i64 (zq : Int)) rfl (by kernel_rfl) (by kernel_rfl) (by kernel_rfl) (ex_load rfl (by kernel_rfl) (ld3 (bO94_1.1))) ?_
          refine pl_take (.agg #[.int .i64 (yp : Int), .int .i64 (yq : Int)]) rfl (by kernel_rfl) (by kernel_rfl) (by kernel_rfl) (ex_load rfl (by kernel_rfl) (ld24 (bO116_0.1) (bO116_1.1))) ?_
          refine pl_step rfl (by kernel_rfl) (by kernel_rfl) (by kernel_rfl) (sn_call (f := 24) (args := #[.slice aj nj cj, .int .i64 (zq : Int), .agg #[.int .i64 (yp : Int), .int .i64 (yq : Int)]]) (by kernel_rfl) ((Room_c zq yp yq _ _ hLj hX59).mono ?_))
          rintro e w122 ⟨rfl, hb⟩
          replace hE := hE.trans hb
          replace hX21 := hX21.trans hb
          replace hX34 := hX34.trans hb
          replace hX51 := hX51.trans hb
          replace hX59 := hX59.trans hb
          replace hX70 := hX70.trans hb
          replace hX77 := hX77.trans hb
          replace hX93 := hX93.trans hb
          replace hX115 := hX115.trans hb
          replace bO36_0 := BoxAt.ext hb bO36_0
          replace bO36_1 := BoxAt.ext hb bO36_1
          replace bO52_0 := BoxAt.ext hb bO52_0
          replace bO52_1 := BoxAt.ext hb bO52_1
          replace bO52_2 := BoxAt.ext hb bO52_2
          replace bO86_0 := BoxAt.ext hb bO86_0
          replace bO86_1 := BoxAt.ext hb bO86_1
          replace bO86_2 := BoxAt.ext hb bO86_2
          replace bO86_3 := BoxAt.ext hb bO86_3
          replace bO94_0 := BoxAt.ext hb bO94_0
          replace bO94_1 := BoxAt.ext hb bO94_1
          replace bO108_0 := BoxAt.ext hb bO108_0
          replace bO108_1 := BoxAt.ext hb bO108_1
          replace bO108_2 := BoxAt.ext hb bO108_2
          replace bO108_3 := BoxAt.ext hb bO108_3
          replace bO116_0 := BoxAt.ext hb bO116_0
          replace bO116_1 := BoxAt.ext hb bO116_1
          have hs123 := hb.size
          clear hb
          refine ⟨_, rfl, ?_⟩
          refine pT (.tuple #[.int .i64 (Mem.ansV (Mem.okL lj && Globe.inB zq 0 1000000 && Mem.spB (yp, yq)) (max 0 (zq - Mem.topR lj yp yq)) : Int), .int .i64 (Mem.ansE (Mem.okL lj && Globe.inB zq 0 1000000 && Mem.spB (yp, yq)) : Int)]) ?_
          refine pT (.int .i64 (Mem.ansV (Mem.okL lj && Globe.inB zq 0 1000000 && Mem.spB (yp, yq)) (max 0 (zq - Mem.topR lj yp yq)) : Int)) ?_
          refine pT (.int .i64 (Mem.ansE (Mem.okL lj && Globe.inB zq 0 1000000 && Mem.spB (yp, yq)) : Int)) ?_
          refine pT (.int .i64 (Mem.ansV (Mem.okL lj && Globe.inB zq 0 1000000 && Mem.spB (yp, yq)) (max 0 (zq - Mem.topR lj yp yq)) : Int)) ?_
          refine pT (.int .i64 (Mem.ansE (Mem.okL lj && Globe.inB zq 0 1000000 && Mem.spB (yp, yq)) : Int)) ?_
          refine pl_nil ?_
          refine qw_then ?_
          refine cw_clean [5, 6, 7, 12, 13, 17, 19, 21, 23, 35, 36, 37, 45, 89, 90, 91, 156, 157, 158, 210, 211, 212] (ws' := [(5, .int .i64 (i5 : Int)), (6, .int .i64 (i6 : Int)), (7, .int .i64 (i7 : Int)), (12, .pointer (some ⟨O9, 0, none⟩)), (13, .pointer (some ⟨O13, 0, none⟩)), (17, .pointer (some ⟨O17, 0, none⟩)), (19, .bool true), (21, .pointer (some ⟨O36, 0, none⟩)), (23, .slice aj nj cj), (35, .pointer (some ⟨O94, 0, none⟩)), (36, .int .i64 (Mem.ansV (Mem.okL lj && Globe.inB zq 0 1000000 && Mem.spB (yp, yq)) (max 0 (zq - Mem.topR lj yp yq)) : Int)), (37, .int .i64 (Mem.ansE (Mem.okL lj && Globe.inB zq 0 1000000 && Mem.spB (yp, yq)) : Int)), (45, .pointer (some ⟨O116, 0, none⟩)), (89, .slice (some ⟨O52, 0, none⟩) 3 3), (90, .int .i64 3), (91, .int .i64 (((j : Nat) : Int) : Int)), (156, .slice (some ⟨O86, 0, none⟩) 2 2), (157, .int .i64 2), (158, .int .i64 (((z : Nat) : Int) : Int)), (210, .slice (some ⟨O108, 0, none⟩) 2 2), (211, .int .i64 2), (212, .int .i64 (((yy : Nat) : Int) : Int))]) (by kernel_rfl) (fun L => ?_)
          refine cw_seq ?_
          refine cw_plain ?_
          refine pT (.slice aj nj cj) ?_
          refine pT (.pointer (some ⟨O94, 1, none⟩)) ?_
          refine pl_take (.int .i64 (zq : Int)) rfl (by kernel_rfl) (by kernel_rfl) (by kernel_rfl) (ex_load rfl (by kernel_rfl) (ld3 (bO94_1.1))) ?_
          refine pl_take (.agg #[.int .i64 (yp : Int), .int .i64 (yq : Int)]) rfl (by kernel_rfl) (by kernel_rfl) (by kernel_rfl) (ex_load rfl (by kernel_rfl) (ld24 (bO116_0.1) (bO116_1.1))) ?_
          refine pl_step rfl (by kernel_rfl) (by kernel_rfl) (by kernel_rfl) (sn_call (f := 25) (args := #[.slice aj nj cj, .int .i64 (zq : Int), .agg #[.int .i64 (yp : Int), .int .i64 (yq : Int)]]) (by kernel_rfl) ((rRoom_c zq yp yq _ _ hLj hX59).mono ?_))
          rintro e w124 ⟨rfl, hb⟩
          replace hE := hE.trans hb
          replace hX21 := hX21.trans hb
          replace hX34 := hX34.trans hb
          replace hX51 := hX51.trans hb
          replace hX59 := hX59.trans hb
          replace hX70 := hX70.trans hb
          replace hX77 := hX77.trans hb
          replace hX93 := hX93.trans hb
          replace hX115 := hX115.trans hb
          replace bO36_0 := BoxAt.ext hb bO36_0
          replace bO36_1 := BoxAt.ext hb bO36_1
          replace bO52_0 := BoxAt.ext hb bO52_0
          replace bO52_1 := BoxAt.ext hb bO52_1
          replace bO52_2 := BoxAt.ext hb bO52_2
          replace bO86_0 := BoxAt.ext hb bO86_0
          replace bO86_1 := BoxAt.ext hb bO86_1
          replace bO86_2 := BoxAt.ext hb bO86_2
          replace bO86_3 := BoxAt.ext hb bO86_3
          replace bO94_0 := BoxAt.ext hb bO94_0
          replace bO94_1 := BoxAt.ext hb bO94_1
          replace bO108_0 := BoxAt.ext hb bO108_0
          replace bO108_1 := BoxAt.ext hb bO108_1
          replace bO108_2 := BoxAt.ext hb bO108_2
          replace bO108_3 := BoxAt.ext hb bO108_3
          replace bO116_0 := BoxAt.ext hb bO116_0
          replace bO116_1 := BoxAt.ext hb bO116_1
          have hs125 := hb.size
          clear hb
          refine ⟨_, rfl, ?_⟩
          refine pT (.tuple #[.int .i64 (Mem.ansV (Mem.okL lj && Globe.inB zq 0 1000000 && Mem.spB (yp, yq)) (max 0 (zq - Mem.topR lj yp yq)) : Int), .int .i64 (Mem.ansE (Mem.okL lj && Globe.inB zq 0 1000000 && Mem.spB (yp, yq)) : Int)]) ?_
          refine pT (.int .i64 (Mem.ansV (Mem.okL lj && Globe.inB zq 0 1000000 && Mem.spB (yp, yq)) (max 0 (zq - Mem.topR lj yp yq)) : Int)) ?_
          refine pT (.int .i64 (Mem.ansE (Mem.okL lj && Globe.inB zq 0 1000000 && Mem.spB (yp, yq)) : Int)) ?_
          refine pT (.int .i64 (Mem.ansV (Mem.okL lj && Globe.inB zq 0 1000000 && Mem.spB (yp, yq)) (max 0 (zq - Mem.topR lj yp yq)) : Int)) ?_
          refine pT (.int .i64 (Mem.ansE (Mem.okL lj && Globe.inB zq 0 1000000 && Mem.spB (yp, yq)) : Int)) ?_
          refine pl_nil ?_
          refine qw_then ?_
          refine cw_clean [5, 6, 7, 12, 13, 17, 19, 21, 23, 35, 36, 37, 38, 39, 89, 90, 91, 156, 157, 158, 210, 211, 212] (ws' := [(5, .int .i64 (i5 : Int)), (6, .int .i64 (i6 : Int)), (7, .int .i64 (i7 : Int)), (12, .pointer (some ⟨O9, 0, none⟩)), (13, .pointer (some ⟨O13, 0, none⟩)), (17, .pointer (some ⟨O17, 0, none⟩)), (19, .bool true), (21, .pointer (some ⟨O36, 0, none⟩)), (23, .slice aj nj cj), (35, .pointer (some ⟨O94, 0, none⟩)), (36, .int .i64 (Mem.ansV (Mem.okL lj && Globe.inB zq 0 1000000 && Mem.spB (yp, yq)) (max 0 (zq - Mem.topR lj yp yq)) : Int)), (37, .int .i64 (Mem.ansE (Mem.okL lj && Globe.inB zq 0 1000000 && Mem.spB (yp, yq)) : Int)), (38, .int .i64 (Mem.ansV (Mem.okL lj && Globe.inB zq 0 1000000 && Mem.spB (yp, yq)) (max 0 (zq - Mem.topR lj yp yq)) : Int)), (39, .int .i64 (Mem.ansE (Mem.okL lj && Globe.inB zq 0 1000000 && Mem.spB (yp, yq)) : Int)), (89, .slice (some ⟨O52, 0, none⟩) 3 3), (90, .int .i64 3), (91, .int .i64 (((j : Nat) : Int) : Int)), (156, .slice (some ⟨O86, 0, none⟩) 2 2), (157, .int .i64 2), (158, .int .i64 (((z : Nat) : Int) : Int)), (210, .slice (some ⟨O108, 0, none⟩) 2 2), (211, .int .i64 2), (212, .int .i64 (((yy : Nat) : Int) : Int))]) (by kernel_rfl) (fun L => ?_)
          refine cw_seq ?_
          refine cw_plain ?_
          refine pT (.int .i64 (Mem.ansV (Mem.okL lj && Globe.inB zq 0 1000000 && Mem.spB (yp, yq)) (max 0 (zq - Mem.topR lj yp yq)) : Int)) ?_
          refine pT (.int .i64 (Mem.ansV (Mem.okL lj && Globe.inB zq 0 1000000 && Mem.spB (yp, yq)) (max 0 (zq - Mem.topR lj yp yq)) : Int)) ?_
          refine pl_take (.bool false) rfl (by kernel_rfl) (by kernel_rfl) (by kernel_rfl) (ev_nne (show _ = Result.ok (Next.value (Value.bool ((Mem.ansV (Mem.okL lj && Globe.inB zq 0 1000000 && Mem.spB (yp, yq)) (max 0 (zq - Mem.topR lj yp yq)) : Int) != (Mem.ansV (Mem.okL lj && Globe.inB zq 0 1000000 && Mem.spB (yp, yq)) (max 0 (zq - Mem.topR lj yp yq)) : Int)))) _ from by kernel_rfl) (rfl)) ?_
          refine pT (.bool false) ?_
          refine pT (.int .i64 (Mem.ansE (Mem.okL lj && Globe.inB zq 0 1000000 && Mem.spB (yp, yq)) : Int)) ?_
          refine pT (.int .i64 (Mem.ansE (Mem.okL lj && Globe.inB zq 0 1000000 && Mem.spB (yp, yq)) : Int)) ?_
          refine pl_take (.bool false) rfl (by kernel_rfl) (by kernel_rfl) (by kernel_rfl) (ev_nne (show _ = Result.ok (Next.value (Value.bool ((Mem.ansE (Mem.okL lj && Globe.inB zq 0 1000000 && Mem.spB (yp, yq)) : Int) != (Mem.ansE (Mem.okL lj && Globe.inB zq 0 1000000 && Mem.spB (yp, yq)) : Int)))) _ from by kernel_rfl) (rfl)) ?_
          refine pT (.bool false) ?_
          refine pl_nil ?_
          refine qw_then ?_
          refine cw_clean [5, 6, 7, 12, 13, 17, 19, 21, 23, 35, 89, 90, 91, 156, 157, 158, 210, 211, 212, 239] (ws' := [(5, .int .i64 (i5 : Int)), (6, .int .i64 (i6 : Int)), (7, .int .i64 (i7 : Int)), (12, .pointer (some ⟨O9, 0, none⟩)), (13, .pointer (some ⟨O13, 0, none⟩)), (17, .pointer (some ⟨O17, 0, none⟩)), (19, .bool true), (21, .pointer (some ⟨O36, 0, none⟩)), (23, .slice aj nj cj), (35, .pointer (some ⟨O94, 0, none⟩)), (89, .slice (some ⟨O52, 0, none⟩) 3 3), (90, .int .i64 3), (91, .int .i64 (((j : Nat) : Int) : Int)), (156, .slice (some ⟨O86, 0, none⟩) 2 2), (157, .int .i64 2), (158, .int .i64 (((z : Nat) : Int) : Int)), (210, .slice (some ⟨O108, 0, none⟩) 2 2), (211, .int .i64 2), (212, .int .i64 (((yy : Nat) : Int) : Int)), (239, .bool false)]) (by kernel_rfl) (fun L => ?_)
          refine cw_f (by kernel_rfl) ?_
          refine cw_skip ?_
          refine qw_block ?_
          refine qw_then ?_
          refine cw_clean [5, 6, 7, 12, 13, 17, 19, 21, 23, 35, 89, 90, 91, 156, 157, 158, 210, 211, 212] (ws' := [(5, .int .i64 (i5 : Int)), (6, .int .i64 (i6 : Int)), (7, .int .i64 (i7 : Int)), (12, .pointer (some ⟨O9, 0, none⟩)), (13, .pointer (some ⟨O13, 0, none⟩)), (17, .pointer (some ⟨O17, 0, none⟩)), (19, .bool true), (21, .pointer (some ⟨O36, 0, none⟩)), (23, .slice aj nj cj), (35, .pointer (some ⟨O94, 0, none⟩)), (89, .slice (some ⟨O52, 0, none⟩) 3 3), (90, .int .i64 3), (91, .int .i64 (((j : Nat) : Int) : Int)), (156, .slice (some ⟨O86, 0, none⟩) 2 2), (157, .int .i64 2), (158, .int .i64 (((z : Nat) : Int) : Int)), (210, .slice (some ⟨O108, 0, none⟩) 2 2), (211, .int .i64 2), (212, .int .i64 (((yy : Nat) : Int) : Int))]) (by kernel_rfl) (fun L => ?_)
          refine cw_plain ?_
          refine pl_take (.int .i64 (((yy + 1 : Nat) : Int) : Int)) rfl (by kernel_rfl) (by kernel_rfl) (by kernel_rfl) (ev_wrap (by kernel_rfl) (by omega) (by omega)) ?_
          refine pT (.int .i64 (((yy + 1 : Nat) : Int) : Int)) ?_
          refine pl_nil ?_
          refine qw_round [5, 6, 7, 12, 13, 17, 19, 21, 23, 35, 89, 90, 91, 156, 157, 158, 210, 211, 212] (ws' := [(5, .int .i64 (i5 : Int)), (6, .int .i64 (i6 : Int)), (7, .int .i64 (i7 : Int)), (12, .pointer (some ⟨O9, 0, none⟩)), (13, .pointer (some ⟨O13, 0, none⟩)), (17, .pointer (some ⟨O17, 0, none⟩)), (19, .bool true), (21, .pointer (some ⟨O36, 0, none⟩)), (23, .slice aj nj cj), (35, .pointer (some ⟨O94, 0, none⟩)), (89, .slice (some ⟨O52, 0, none⟩) 3 3), (90, .int .i64 3), (91, .int .i64 (((j : Nat) : Int) : Int)), (156, .slice (some ⟨O86, 0, none⟩) 2 2), (157, .int .i64 2), (158, .int .i64 (((z : Nat) : Int) : Int)), (210, .slice (some ⟨O108, 0, none⟩) 2 2), (211, .int .i64 2), (212, .int .i64 (((yy + 1 : Nat) : Int) : Int))]) (by kernel_rfl) _ ?_ ⟨(yy + 1), rfl, rfl, (Nat.le_trans hs112 (Nat.le_trans hs118 (Nat.le_trans hs121 (Nat.le_trans hs123 hs125)))), hE, hX21, hX34, hX51, hX59, hX70, hX77, hX93, bO36_0, bO36_1, bO52_0, bO52_1, bO52_2, bO86_0, bO86_1, bO86_2, bO86_3, bO94_0, bO94_1, bO108_0, bO108_1, bO108_2, bO108_3, by omega⟩
          omega
        ·
          refine cw_seq ?_
          refine cw_plain ?_
          refine pl_take (.bool false) rfl (by kernel_rfl) (by kernel_rfl) (by kernel_rfl) (ev_ndec (show _ = Result.ok (Next.value (Value.bool (decide ((((yy : Nat) : Int) : Int) < (2 : Int))))) _ from by kernel_rfl) (by omega)) ?_
          refine pl_nil ?_
          refine qw_then ?_
          refine cw_clean [5, 6, 7, 12, 13, 17, 19, 21, 23, 35, 89, 90, 91, 156, 157, 158, 210, 211, 212, 213] (ws' := [(5, .int .i64 (i5 : Int)), (6, .int .i64 (i6 : Int)), (7, .int .i64 (i7 : Int)), (12, .pointer (some ⟨O9, 0, none⟩)), (13, .pointer (some ⟨O13, 0, none⟩)), (17, .pointer (some ⟨O17, 0, none⟩)), (19, .bool true), (21, .pointer (some ⟨O36, 0, none⟩)), (23, .slice aj nj cj), (35, .pointer (some ⟨O94, 0, none⟩)), (89, .slice (some ⟨O52, 0, none⟩) 3 3), (90, .int .i64 3), (91, .int .i64 (((j : Nat) : Int) : Int)), (156, .slice (some ⟨O86, 0, none⟩) 2 2), (157, .int .i64 2), (158, .int .i64 (((z : Nat) : Int) : Int)), (210, .slice (some ⟨O108, 0, none⟩) 2 2), (211, .int .i64 2), (212, .int .i64 (((yy : Nat) : Int) : Int)), (213, .bool false)]) (by kernel_rfl) (fun L => ?_)
          refine cw_seq ?_
          refine cw_f (by kernel_rfl) ?_
          refine cw_exit ?_
          refine qw_then_exit ?_
          refine qw_then_exit ?_
          refine qw_block_out ?_
          refine qw_block ?_
          refine qw_then ?_
          refine cw_clean [5, 6, 7, 12, 13, 17, 19, 21, 23, 89, 90, 91, 156, 157, 158] (ws' := [(5, .int .i64 (i5 : Int)), (6, .int .i64 (i6 : Int)), (7, .int .i64 (i7 : Int)), (12, .pointer (some ⟨O9, 0, none⟩)), (13, .pointer (some ⟨O13, 0, none⟩)), (17, .pointer (some ⟨O17, 0, none⟩)), (19, .bool true), (21, .pointer (some ⟨O36, 0, none⟩)), (23, .slice aj nj cj), (89, .slice (some ⟨O52, 0, none⟩) 3 3), (90, .int .i64 3), (91, .int .i64 (((j : Nat) : Int) : Int)), (156, .slice (some ⟨O86, 0, none⟩) 2 2), (157, .int .i64 2), (158, .int .i64 (((z : Nat) : Int) : Int))]) (by kernel_rfl) (fun L => ?_)
          refine cw_plain ?_
          refine pl_take (.int .i64 (((z + 1 : Nat) : Int) : Int)) rfl (by kernel_rfl) (by kernel_rfl) (by kernel_rfl) (ev_wrap (by kernel_rfl) (by omega) (by omega)) ?_
          refine pT (.int .i64 (((z + 1 : Nat) : Int) : Int)) ?_
          refine pl_nil ?_
          refine qw_round [5, 6, 7, 12, 13, 17, 19, 21, 23, 89, 90, 91, 156, 157, 158] (ws' := [(5, .int .i64 (i5 : Int)), (6, .int .i64 (i6 : Int)), (7, .int .i64 (i7 : Int)), (12, .pointer (some ⟨O9, 0, none⟩)), (13, .pointer (some ⟨O13, 0, none⟩)), (17, .pointer (some ⟨O17, 0, none⟩)), (19, .bool true), (21, .pointer (some ⟨O36, 0, none⟩)), (23, .slice aj nj cj), (89, .slice (some ⟨O52, 0, none⟩) 3 3), (90, .int .i64 3), (91, .int .i64 (((j : Nat) : Int) : Int)), (156, .slice (some ⟨O86, 0, none⟩) 2 2), (157, .int .i64 2), (158, .int .i64 (((z + 1 : Nat) : Int) : Int))]) (by kernel_rfl) _ ?_ ⟨(z + 1), rfl, rfl, (Nat.le_trans hs90 (Nat.le_trans hs96 (Nat.le_trans hs99 (Nat.le_trans hs101 (Nat.le_trans hs103 (Nat.le_trans hs105 (Nat.le_trans hs107 (Nat.le_trans hs110 hs112)))))))), hE, hX21, hX34, hX51, hX59, hX70, hX77, bO36_0, bO36_1, bO52_0, bO52_1, bO52_2, bO86_0, bO86_1, bO86_2, bO86_3, by omega⟩
          omega
      ·
        refine cw_seq ?_
        refine cw_plain ?_
        refine pl_take (.bool false) rfl (by kernel_rfl) (by kernel_rfl) (by kernel_rfl) (ev_ndec (show _ = Result.ok (Next.value (Value.bool (decide ((((z : Nat) : Int) : Int) < (2 : Int))))) _ from by kernel_rfl) (by omega)) ?_
        refine pl_nil ?_
        refine qw_then ?_
        refine cw_clean [5, 6, 7, 12, 13, 17, 19, 21, 23, 89, 90, 91, 156, 157, 158, 159] (ws' := [(5, .int .i64 (i5 : Int)), (6, .int .i64 (i6 : Int)), (7, .int .i64 (i7 : Int)), (12, .pointer (some ⟨O9, 0, none⟩)), (13, .pointer (some ⟨O13, 0, none⟩)), (17, .pointer (some ⟨O17, 0, none⟩)), (19, .bool true), (21, .pointer (some ⟨O36, 0, none⟩)), (23, .slice aj nj cj), (89, .slice (some ⟨O52, 0, none⟩) 3 3), (90, .int .i64 3), (91, .int .i64 (((j : Nat) : Int) : Int)), (156, .slice (some ⟨O86, 0, none⟩) 2 2), (157, .int .i64 2), (158, .int .i64 (((z : Nat) : Int) : Int)), (159, .bool false)]) (by kernel_rfl) (fun L => ?_)
        refine cw_seq ?_
        refine cw_f (by kernel_rfl) ?_
        refine cw_exit ?_
        refine qw_then_exit ?_
        refine qw_then_exit ?_
        refine qw_block_out ?_
        refine qw_block ?_
        refine qw_then ?_
        refine cw_clean [5, 6, 7, 12, 13, 17, 19, 21, 89, 90, 91] (ws' := [(5, .int .i64 (i5 : Int)), (6, .int .i64 (i6 : Int)), (7, .int .i64 (i7 : Int)), (12, .pointer (some ⟨O9, 0, none⟩)), (13, .pointer (some ⟨O13, 0, none⟩)), (17, .pointer (some ⟨O17, 0, none⟩)), (19, .bool true), (21, .pointer (some ⟨O36, 0, none⟩)), (89, .slice (some ⟨O52, 0, none⟩) 3 3), (90, .int .i64 3), (91, .int .i64 (((j : Nat) : Int) : Int))]) (by kernel_rfl) (fun L => ?_)
        refine cw_plain ?_
        refine pl_take (.int .i64 (((j + 1 : Nat) : Int) : Int)) rfl (by kernel_rfl) (by kernel_rfl) (by kernel_rfl) (ev_wrap (by kernel_rfl) (by omega) (by omega)) ?_
        refine pT (.int .i64 (((j + 1 : Nat) : Int) : Int)) ?_
        refine pl_nil ?_
        refine qw_round [5, 6, 7, 12, 13, 17, 19, 21, 89, 90, 91] (ws' := [(5, .int .i64 (i5 : Int)), (6, .int .i64 (i6 : Int)), (7, .int .i64 (i7 : Int)), (12, .pointer (some ⟨O9, 0, none⟩)), (13, .pointer (some ⟨O13, 0, none⟩)), (17, .pointer (some ⟨O17, 0, none⟩)), (19, .bool true), (21, .pointer (some ⟨O36, 0, none⟩)), (89, .slice (some ⟨O52, 0, none⟩) 3 3), (90, .int .i64 3), (91, .int .i64 (((j + 1 : Nat) : Int) : Int))]) (by kernel_rfl) _ ?_ ⟨(j + 1), rfl, rfl, (Nat.le_trans hs56 (Nat.le_trans hs61 (Nat.le_trans hs63 (Nat.le_trans hs69 (Nat.le_trans hs76 (Nat.le_trans hs79 (Nat.le_trans hs81 (Nat.le_trans hs83 (Nat.le_trans hs88 hs90))))))))), hE, hX21, hX34, hX51, bO36_0, bO36_1, bO52_0, bO52_1, bO52_2, by omega⟩
        omega
    ·
      refine cw_seq ?_
      refine cw_plain ?_
      refine pl_take (.bool false) rfl (by kernel_rfl) (by kernel_rfl) (by kernel_rfl) (ev_ndec (show _ = Result.ok (Next.value (Value.bool (decide ((((j : Nat) : Int) : Int) < (3 : Int))))) _ from by kernel_rfl) (by omega)) ?_
      refine pl_nil ?_
      refine qw_then ?_
      refine cw_seq ?_
      refine cw_f (by kernel_rfl) ?_
      refine cw_exit ?_
      refine qw_then_exit ?_
      refine qw_then_exit ?_
      refine qw_block_out ?_
      refine qw_then ?_
      refine cw_seq ?_
      refine cw_seq ?_
      refine cw_join (fun ws' Y => ∃ O128 : Nat, ∃ xO : Mem.Opt, ∃ aS : Option Addr, ∃ nS : Nat, ∃ kS : Nat, ∃ O137 : Nat, ws' = [(5, .int .i64 (i5 : Int)), (19, .bool true), (250, .slice (some ⟨O137, 0, none⟩) 2 2), (251, .int .i64 2), (252, .int .i64 0)] ∧ Ext w Y ∧ Ext X18 Y ∧ Ext w33 Y ∧ Ext w49 Y ∧ BoxAt Y O36 0 (.int .i64 (pk35 : Int)) ∧ BoxAt Y O36 1 (.int .i64 ((pk35 + 1) + pk44 : Int)) ∧ BoxAt Y O52 0 (.slice a3 k3 c3) ∧ BoxAt Y O52 1 (.slice a1 k1 c1) ∧ BoxAt Y O52 2 (.slice a2 (min n2 25) c2) ∧ SlsAt Y aS nS xO.sl ∧ BoxAt Y O137 0 (.int .i64 (xO.id : Int)) ∧ BoxAt Y O137 1 (.int .i64 (xO.od : Int)) ∧ BoxAt Y O137 2 (.int .i64 (xO.cl : Int)) ∧ BoxAt Y O137 3 (.int .i64 (xO.sa : Int)) ∧ BoxAt Y O137 4 (.int .i64 (xO.fr : Int)) ∧ BoxAt Y O137 5 (.int .i64 (xO.to : Int)) ∧ BoxAt Y O137 6 (.int .i64 (xO.lk : Int)) ∧ BoxAt Y O137 7 (.int .i64 (xO.sz : Int)) ∧ BoxAt Y O137 8 (.slice aS nS kS) ∧ BoxAt Y O137 9 (.int .i64 (op.id : Int)) ∧ BoxAt Y O137 10 (.int .i64 (op.od : Int)) ∧ BoxAt Y O137 11 (.int .i64 (op.cl : Int)) ∧ BoxAt Y O137 12 (.int .i64 (op.sa : Int)) ∧ BoxAt Y O137 13 (.int .i64 (op.fr : Int)) ∧ BoxAt Y O137 14 (.int .i64 (op.to : Int)) ∧ BoxAt Y O137 15 (.int .i64 (op.lk : Int)) ∧ BoxAt Y O137 16 (.int .i64 (op.sz : Int)) ∧ BoxAt Y O137 17 (.slice a4 (min n4 7) c4) ∧ w57.heap.size ≤ Y.heap.size ∧ w57.heap.size ≤ O137) (fun hJ => ?_) ?_
      ·
        refine cw_draw [(some 243, [12], []), (some 244, [243], [0]), (some 245, [244], [1]), (some 246, [245], [2]), (some 247, [246], [3]), (some 248, [13], []), (some 249, [248], [5, 2]), (some 250, [247, 249], [4, 6]), (some 251, [250], [7]), (some 252, [], [])] (fun w' => Ext X18 w') (by kernel_rfl) (by kernel_rfl) (by kernel_rfl) (by kernel_rfl) ((calm_then (calm_then calm_body))) (Ext.drew hX21) (fun ops Q X126 hb hL hR hK => ?_)
        replace hE := hE.trans hb
        replace hX21 := hX21.trans hb
        replace hX34 := hX34.trans hb
        replace hX51 := hX51.trans hb
        replace bO36_0 := BoxAt.ext hb bO36_0
        replace bO36_1 := BoxAt.ext hb bO36_1
        replace bO52_0 := BoxAt.ext hb bO52_0
        replace bO52_1 := BoxAt.ext hb bO52_1
        replace bO52_2 := BoxAt.ext hb bO52_2
        have hs127 := hb.size
        clear hb
        refine wd_take 0 (.agg #[.int .i64 (y0 : Int), .int .i64 (y1 : Int), .int .i64 (y2 : Int), .int .i64 (y3 : Int), .int .i64 (y4 : Int), .int .i64 (y5 : Int)]) hR rfl (by kernel_rfl) rfl (by kernel_rfl) (fun w hS => ex_load rfl (by kernel_rfl) (ld28 ((BoxAt.ext hS bO9_0).1) ((BoxAt.ext hS bO9_1).1) ((BoxAt.ext hS bO9_2).1) ((BoxAt.ext hS bO9_3).1) ((BoxAt.ext hS bO9_4).1) ((BoxAt.ext hS bO9_5).1))) (hX21) ?_
        refine wd_take 5 (.agg #[.int .i64 (op.id : Int), .int .i64 (op.od : Int), .int .i64 (op.cl : Int), .int .i64 (op.sa : Int), .int .i64 (op.fr : Int), .int .i64 (op.to : Int), .int .i64 (op.lk : Int), .int .i64 (op.sz : Int), .slice a4 n4 c4]) hR rfl (by kernel_rfl) rfl (by kernel_rfl) (fun w hS => ex_load rfl (by kernel_rfl) (ld31 ((BoxAt.ext hS bO13_0).1) ((BoxAt.ext hS bO13_1).1) ((BoxAt.ext hS bO13_2).1) ((BoxAt.ext hS bO13_3).1) ((BoxAt.ext hS bO13_4).1) ((BoxAt.ext hS bO13_5).1) ((BoxAt.ext hS bO13_6).1) ((BoxAt.ext hS bO13_7).1) ((BoxAt.ext hS bO13_8).1))) (hX21) ?_
        refine wd_take 9 (.int .i64 0) hR rfl (by kernel_rfl) rfl (by kernel_rfl) (fun w _ => by kernel_rfl) (hX21) ?_
        refine wd_step 1 hR rfl (by kernel_rfl) (by kernel_rfl) (by kernel_rfl) (sn_newS (us := #[.int .i64 (y0 : Int), .int .i64 (y1 : Int), .int .i64 (y2 : Int), .int .i64 (y3 : Int), .int .i64 (y4 : Int), .int .i64 (y5 : Int)]) (t := 28) (k := 1) (c := 1) (by kernel_rfl) ?_)
        intro O128 X129 hO hOs hb hbx
        have hzO128 := hO; have hyO128 := hOs; clear hO hOs
        have bO128_0 : BoxAt X129 O128 0 (.int .i64 (y0 : Int)) := hbx 0 _ rfl
        have bO128_1 : BoxAt X129 O128 1 (.int .i64 (y1 : Int)) := hbx 1 _ rfl
        have bO128_2 : BoxAt X129 O128 2 (.int .i64 (y2 : Int)) := hbx 2 _ rfl
        have bO128_3 : BoxAt X129 O128 3 (.int .i64 (y3 : Int)) := hbx 3 _ rfl
        have bO128_4 : BoxAt X129 O128 4 (.int .i64 (y4 : Int)) := hbx 4 _ rfl
        have bO128_5 : BoxAt X129 O128 5 (.int .i64 (y5 : Int)) := hbx 5 _ rfl
        clear hbx
        replace hE := hE.trans hb
        replace hX21 := hX21.trans hb
        replace hX34 := hX34.trans hb
        replace hX51 := hX51.trans hb
        replace bO36_0 := BoxAt.ext hb bO36_0
        replace bO36_1 := BoxAt.ext hb bO36_1
        replace bO52_0 := BoxAt.ext hb bO52_0
        replace bO52_1 := BoxAt.ext hb bO52_1
        replace bO52_2 := BoxAt.ext hb bO52_2
        have hs130 := hb.size
        clear hb
        have lt131 := bO128_0.lt
        refine ⟨hX21, ?_⟩
        refine wd_step 2 hR rfl (by kernel_rfl) (by kernel_rfl) (by kernel_rfl) (sn_call (f := 26) (args := #[.slice (some ⟨O128, 0, none⟩) 1 1]) (by kernel_rfl) ((Options_c _ _ (six1 (bO128_0.1) hy0 (bO128_1.1) hy1 (bO128_2.1) hy2 (bO128_3.1) hy3 (bO128_4.1) hy4 (bO128_5.1) hy5) (Ext.refl _)).mono ?_))
        rintro e w132 ⟨aO, kO, cO, po, rfl, _, hkO, hO, _, hb⟩
        replace hE := hE.trans hb
        replace hX21 := hX21.trans hb
        replace hX34 := hX34.trans hb
        replace hX51 := hX51.trans hb
        replace bO36_0 := BoxAt.ext hb bO36_0
        replace bO36_1 := BoxAt.ext hb bO36_1
        replace bO52_0 := BoxAt.ext hb bO52_0
        replace bO52_1 := BoxAt.ext hb bO52_1
        replace bO52_2 := BoxAt.ext hb bO52_2
        replace bO128_0 := BoxAt.ext hb bO128_0
        replace bO128_1 := BoxAt.ext hb bO128_1
        replace bO128_2 := BoxAt.ext hb bO128_2
        replace bO128_3 := BoxAt.ext hb bO128_3
        replace bO128_4 := BoxAt.ext hb bO128_4
        replace bO128_5 := BoxAt.ext hb bO128_5
        have hs133 := hb.size
        clear hb
        obtain ⟨bO, oO, xO, haO, hxO⟩ := optsAt_0 hO (by omega)
        obtain rfl := haO
        obtain ⟨z0, z1, z2, z3, z4, z5, z6, z7, aS, nS, kS, z8, hSO⟩ := hxO
        have hX134 : Ext w132 w132 := Ext.refl _
        refine ⟨_, rfl, hX21, ?_⟩
        refine wd_take 3 (.pointer (some ⟨bO, oO, none⟩)) hR rfl (by kernel_rfl) rfl (by kernel_rfl) (fun w _ => ex_index (p := .slice (some ⟨bO, oO, none⟩) kO cO) (i := .int .i64 ((0 : Nat) : Int)) rfl (by kernel_rfl) (by kernel_rfl) (ix50 (k := 0) (by omega))) (hX21) ?_
        refine wd_two 4 6 hR rfl rfl (by kernel_rfl) (by kernel_rfl) (by kernel_rfl) (by kernel_rfl) ?_ ?_
        ·
          refine sn_eff (v := .agg #[.int .i64 (xO.id : Int), .int .i64 (xO.od : Int), .int .i64 (xO.cl : Int), .int .i64 (xO.sa : Int), .int .i64 (xO.fr : Int), .int .i64 (xO.to : Int), .int .i64 (xO.lk : Int), .int .i64 (xO.sz : Int), .slice aS nS kS]) (w' := w132) (ex_load rfl (by kernel_rfl) (ld31 (z0) (z1) (z2) (z3) (z4) (z5) (z6) (z7) (z8))) ⟨hX21, ?_⟩
          refine wd_step 6 hR rfl (by kernel_rfl) (by kernel_rfl) (by kernel_rfl) (sn_call (f := 27) (args := #[.agg #[.int .i64 (op.id : Int), .int .i64 (op.od : Int), .int .i64 (op.cl : Int), .int .i64 (op.sa : Int), .int .i64 (op.fr : Int), .int .i64 (op.to : Int), .int .i64 (op.lk : Int), .int .i64 (op.sz : Int), .slice a4 n4 c4]]) (by kernel_rfl) ((few_c (o := op) _ hn4 hc4).mono ?_))
          rintro e w135 ⟨rfl, hb⟩
          replace hE := hE.trans hb
          replace hX21 := hX21.trans hb
          replace hX34 := hX34.trans hb
          replace hX51 := hX51.trans hb
          replace hX134 := hX134.trans hb
          replace bO36_0 := BoxAt.ext hb bO36_0
          replace bO36_1 := BoxAt.ext hb bO36_1
          replace bO52_0 := BoxAt.ext hb bO52_0
          replace bO52_1 := BoxAt.ext hb bO52_1
          replace bO52_2 := BoxAt.ext hb bO52_2
          replace bO128_0 := BoxAt.ext hb bO128_0
          replace bO128_1 := BoxAt.ext hb bO128_1
          replace bO128_2 := BoxAt.ext hb bO128_2
          replace bO128_3 := BoxAt.ext hb bO128_3
          replace bO128_4 := BoxAt.ext hb bO128_4
          replace bO128_5 := BoxAt.ext hb bO128_5
          have hs136 := hb.size
          clear hb
          refine ⟨_, rfl, hX21, ?_⟩
          refine wd_step 7 hR rfl (by kernel_rfl) (by kernel_rfl) (by kernel_rfl) (sn_newS (us := #[.int .i64 (xO.id : Int), .int .i64 (xO.od : Int), .int .i64 (xO.cl : Int), .int .i64 (xO.sa : Int), .int .i64 (xO.fr : Int), .int .i64 (xO.to : Int), .int .i64 (xO.lk : Int), .int .i64 (xO.sz : Int), .slice aS nS kS, .int .i64 (op.id : Int), .int .i64 (op.od : Int), .int .i64 (op.cl : Int), .int .i64 (op.sa : Int), .int .i64 (op.fr : Int), .int .i64 (op.to : Int), .int .i64 (op.lk : Int), .int .i64 (op.sz : Int), .slice a4 (min n4 7) c4]) (t := 31) (k := 2) (c := 2) (by kernel_rfl) ?_)
          intro O137 X138 hO hOs hb hbx
          have hzO137 := hO; have hyO137 := hOs; clear hO hOs
          have bO137_0 : BoxAt X138 O137 0 (.int .i64 (xO.id : Int)) := hbx 0 _ rfl
          have bO137_1 : BoxAt X138 O137 1 (.int .i64 (xO.od : Int)) := hbx 1 _ rfl
          have bO137_2 : BoxAt X138 O137 2 (.int .i64 (xO.cl : Int)) := hbx 2 _ rfl
          have bO137_3 : BoxAt X138 O137 3 (.int .i64 (xO.sa : Int)) := hbx 3 _ rfl
          have bO137_4 : BoxAt X138 O137 4 (.int .i64 (xO.fr : Int)) := hbx 4 _ rfl
          have bO137_5 : BoxAt X138 O137 5 (.int .i64 (xO.to : Int)) := hbx 5 _ rfl
          have bO137_6 : BoxAt X138 O137 6 (.int .i64 (xO.lk : Int)) := hbx 6 _ rfl
          have bO137_7 : BoxAt X138 O137 7 (.int .i64 (xO.sz : Int)) := hbx 7 _ rfl
          have bO137_8 : BoxAt X138 O137 8 (.slice aS nS kS) := hbx 8 _ rfl
          have bO137_9 : BoxAt X138 O137 9 (.int .i64 (op.id : Int)) := hbx 9 _ rfl
          have bO137_10 : BoxAt X138 O137 10 (.int .i64 (op.od : Int)) := hbx 10 _ rfl
          have bO137_11 : BoxAt X138 O137 11 (.int .i64 (op.cl : Int)) := hbx 11 _ rfl
          have bO137_12 : BoxAt X138 O137 12 (.int .i64 (op.sa : Int)) := hbx 12 _ rfl
          have bO137_13 : BoxAt X138 O137 13 (.int .i64 (op.fr : Int)) := hbx 13 _ rfl
          have bO137_14 : BoxAt X138 O137 14 (.int .i64 (op.to : Int)) := hbx 14 _ rfl
          have bO137_15 : BoxAt X138 O137 15 (.int .i64 (op.lk : Int)) := hbx 15 _ rfl
          have bO137_16 : BoxAt X138 O137 16 (.int .i64 (op.sz : Int)) := hbx 16 _ rfl
          have bO137_17 : BoxAt X138 O137 17 (.slice a4 (min n4 7) c4) := hbx 17 _ rfl
          clear hbx
          replace hE := hE.trans hb
          replace hX21 := hX21.trans hb
          replace hX34 := hX34.trans hb
          replace hX51 := hX51.trans hb
          replace hX134 := hX134.trans hb
          replace bO36_0 := BoxAt.ext hb bO36_0
          replace bO36_1 := BoxAt.ext hb bO36_1
          replace bO52_0 := BoxAt.ext hb bO52_0
          replace bO52_1 := BoxAt.ext hb bO52_1
          replace bO52_2 := BoxAt.ext hb bO52_2
          replace bO128_0 := BoxAt.ext hb bO128_0
          replace bO128_1 := BoxAt.ext hb bO128_1
          replace bO128_2 := BoxAt.ext hb bO128_2
          replace bO128_3 := BoxAt.ext hb bO128_3
          replace bO128_4 := BoxAt.ext hb bO128_4
          replace bO128_5 := BoxAt.ext hb bO128_5
          have hs139 := hb.size
          clear hb
          have lt140 := bO137_0.lt
          refine ⟨hX21, ?_⟩
          refine wd_take 8 (.int .i64 2) hR rfl (by kernel_rfl) rfl (by kernel_rfl) (fun w _ => by kernel_rfl) (hX21) ?_
          refine wd_end hL hR hK (by kernel_rfl) ?_
          exact qw_leaf hJ [5, 19, 250, 251, 252] (ws' := [(5, .int .i64 (i5 : Int)), (19, .bool true), (250, .slice (some ⟨O137, 0, none⟩) 2 2), (251, .int .i64 2), (252, .int .i64 0)]) (by kernel_rfl) ⟨O128, xO, aS, nS, kS, O137, rfl, hE, hX21, hX34, hX51, bO36_0, bO36_1, bO52_0, bO52_1, bO52_2, (hSO.ext hX134), bO137_0, bO137_1, bO137_2, bO137_3, bO137_4, bO137_5, bO137_6, bO137_7, bO137_8, bO137_9, bO137_10, bO137_11, bO137_12, bO137_13, bO137_14, bO137_15, bO137_16, bO137_17, (Nat.le_trans hs127 (Nat.le_trans hs130 (Nat.le_trans hs133 (Nat.le_trans hs136 hs139)))), (Nat.le_trans (Nat.le_trans hs127 (Nat.le_trans hs130 (Nat.le_trans hs133 hs136))) (Nat.le_of_eq hzO137))⟩
        ·
          refine sn_call (f := 27) (args := #[.agg #[.int .i64 (op.id : Int), .int .i64 (op.od : Int), .int .i64 (op.cl : Int), .int .i64 (op.sa : Int), .int .i64 (op.fr : Int), .int .i64 (op.to : Int), .int .i64 (op.lk : Int), .int .i64 (op.sz : Int), .slice a4 n4 c4]]) (by kernel_rfl) ((few_c (o := op) _ hn4 hc4).mono ?_)
          rintro e w141 ⟨rfl, hb⟩
          replace hE := hE.trans hb
          replace hX21 := hX21.trans hb
          replace hX34 := hX34.trans hb
          replace hX51 := hX51.trans hb
          replace hX134 := hX134.trans hb
          replace bO36_0 := BoxAt.ext hb bO36_0
          replace bO36_1 := BoxAt.ext hb bO36_1
          replace bO52_0 := BoxAt.ext hb bO52_0
          replace bO52_1 := BoxAt.ext hb bO52_1
          replace bO52_2 := BoxAt.ext hb bO52_2
          replace bO128_0 := BoxAt.ext hb bO128_0
          replace bO128_1 := BoxAt.ext hb bO128_1
          replace bO128_2 := BoxAt.ext hb bO128_2
          replace bO128_3 := BoxAt.ext hb bO128_3
          replace bO128_4 := BoxAt.ext hb bO128_4
          replace bO128_5 := BoxAt.ext hb bO128_5
          have hs142 := hb.size
          clear hb
          refine ⟨_, rfl, hX21, ?_⟩
          refine wd_step 4 hR rfl (by kernel_rfl) (by kernel_rfl) (by kernel_rfl) (sn_eff (v := .agg #[.int .i64 (xO.id : Int), .int .i64 (xO.od : Int), .int .i64 (xO.cl : Int), .int .i64 (xO.sa : Int), .int .i64 (xO.fr : Int), .int .i64 (xO.to : Int), .int .i64 (xO.lk : Int), .int .i64 (xO.sz : Int), .slice aS nS kS]) (w' := w141) (ex_load rfl (by kernel_rfl) (ld31 ((hX134.cell z0)) ((hX134.cell z1)) ((hX134.cell z2)) ((hX134.cell z3)) ((hX134.cell z4)) ((hX134.cell z5)) ((hX134.cell z6)) ((hX134.cell z7)) ((hX134.cell z8)))) ⟨hX21, ?_⟩)
          refine wd_step 7 hR rfl (by kernel_rfl) (by kernel_rfl) (by kernel_rfl) (sn_newS (us := #[.int .i64 (xO.id : Int), .int .i64 (xO.od : Int), .int .i64 (xO.cl : Int), .int .i64 (xO.sa : Int), .int .i64 (xO.fr : Int), .int .i64 (xO.to : Int), .int .i64 (xO.lk : Int), .int .i64 (xO.sz : Int), .slice aS nS kS, .int .i64 (op.id : Int), .int .i64 (op.od : Int), .int .i64 (op.cl : Int), .int .i64 (op.sa : Int), .int .i64 (op.fr : Int), .int .i64 (op.to : Int), .int .i64 (op.lk : Int), .int .i64 (op.sz : Int), .slice a4 (min n4 7) c4]) (t := 31) (k := 2) (c := 2) (by kernel_rfl) ?_)
          intro O143 X144 hO hOs hb hbx
          have hzO143 := hO; have hyO143 := hOs; clear hO hOs
          have bO143_0 : BoxAt X144 O143 0 (.int .i64 (xO.id : Int)) := hbx 0 _ rfl
          have bO143_1 : BoxAt X144 O143 1 (.int .i64 (xO.od : Int)) := hbx 1 _ rfl
          have bO143_2 : BoxAt X144 O143 2 (.int .i64 (xO.cl : Int)) := hbx 2 _ rfl
          have bO143_3 : BoxAt X144 O143 3 (.int .i64 (xO.sa : Int)) := hbx 3 _ rfl
          have bO143_4 : BoxAt X144 O143 4 (.int .i64 (xO.fr : Int)) := hbx 4 _ rfl
          have bO143_5 : BoxAt X144 O143 5 (.int .i64 (xO.to : Int)) := hbx 5 _ rfl
          have bO143_6 : BoxAt X144 O143 6 (.int .i64 (xO.lk : Int)) := hbx 6 _ rfl
          have bO143_7 : BoxAt X144 O143 7 (.int .i64 (xO.sz : Int)) := hbx 7 _ rfl
          have bO143_8 : BoxAt X144 O143 8 (.slice aS nS kS) := hbx 8 _ rfl
          have bO143_9 : BoxAt X144 O143 9 (.int .i64 (op.id : Int)) := hbx 9 _ rfl
          have bO143_10 : BoxAt X144 O143 10 (.int .i64 (op.od : Int)) := hbx 10 _ rfl
          have bO143_11 : BoxAt X144 O143 11 (.int .i64 (op.cl : Int)) := hbx 11 _ rfl
          have bO143_12 : BoxAt X144 O143 12 (.int .i64 (op.sa : Int)) := hbx 12 _ rfl
          have bO143_13 : BoxAt X144 O143 13 (.int .i64 (op.fr : Int)) := hbx 13 _ rfl
          have bO143_14 : BoxAt X144 O143 14 (.int .i64 (op.to : Int)) := hbx 14 _ rfl
          have bO143_15 : BoxAt X144 O143 15 (.int .i64 (op.lk : Int)) := hbx 15 _ rfl
          have bO143_16 : BoxAt X144 O143 16 (.int .i64 (op.sz : Int)) := hbx 16 _ rfl
          have bO143_17 : BoxAt X144 O143 17 (.slice a4 (min n4 7) c4) := hbx 17 _ rfl
          clear hbx
          replace hE := hE.trans hb
          replace hX21 := hX21.trans hb
          replace hX34 := hX34.trans hb
          replace hX51 := hX51.trans hb
          replace hX134 := hX134.trans hb
          replace bO36_0 := BoxAt.ext hb bO36_0
          replace bO36_1 := BoxAt.ext hb bO36_1
          replace bO52_0 := BoxAt.ext hb bO52_0
          replace bO52_1 := BoxAt.ext hb bO52_1
          replace bO52_2 := BoxAt.ext hb bO52_2
          replace bO128_0 := BoxAt.ext hb bO128_0
          replace bO128_1 := BoxAt.ext hb bO128_1
          replace bO128_2 := BoxAt.ext hb bO128_2
          replace bO128_3 := BoxAt.ext hb bO128_3
          replace bO128_4 := BoxAt.ext hb bO128_4
          replace bO128_5 := BoxAt.ext hb bO128_5
          have hs145 := hb.size
          clear hb
          have lt146 := bO143_0.lt
          refine ⟨hX21, ?_⟩
          refine wd_take 8 (.int .i64 2) hR rfl (by kernel_rfl) rfl (by kernel_rfl) (fun w _ => by kernel_rfl) (hX21) ?_
          refine wd_end hL hR hK (by kernel_rfl) ?_
          exact qw_leaf hJ [5, 19, 250, 251, 252] (ws' := [(5, .int .i64 (i5 : Int)), (19, .bool true), (250, .slice (some ⟨O143, 0, none⟩) 2 2), (251, .int .i64 2), (252, .int .i64 0)]) (by kernel_rfl) ⟨O128, xO, aS, nS, kS, O143, rfl, hE, hX21, hX34, hX51, bO36_0, bO36_1, bO52_0, bO52_1, bO52_2, (hSO.ext hX134), bO143_0, bO143_1, bO143_2, bO143_3, bO143_4, bO143_5, bO143_6, bO143_7, bO143_8, bO143_9, bO143_10, bO143_11, bO143_12, bO143_13, bO143_14, bO143_15, bO143_16, bO143_17, (Nat.le_trans hs127 (Nat.le_trans hs130 (Nat.le_trans hs133 (Nat.le_trans hs142 hs145)))), (Nat.le_trans (Nat.le_trans hs127 (Nat.le_trans hs130 (Nat.le_trans hs133 hs142))) (Nat.le_of_eq hzO143))⟩
      ·
        clear bO36_0 bO36_1 bO52_0 bO52_1 bO52_2 hE hX21 hX34 hX51
        rintro L ws Y147 ⟨O128, xO, aS, nS, kS, O137, rfl, hE, hX21, hX34, hX51, bO36_0, bO36_1, bO52_0, bO52_1, bO52_2, hSO, bO137_0, bO137_1, bO137_2, bO137_3, bO137_4, bO137_5, bO137_6, bO137_7, bO137_8, bO137_9, bO137_10, bO137_11, bO137_12, bO137_13, bO137_14, bO137_15, bO137_16, bO137_17, hn148, hn149⟩
        have hX150 : Ext Y147 Y147 := Ext.refl _
        have lt151 := bO137_0.lt
        refine qw_then ?_
        refine cw_block ?_
        refine cw_loop [5, 19, 250, 251, 252] (fun ws' wr m => ∃ v : Nat, ws' = [(5, .int .i64 (i5 : Int)), (19, .bool true), (250, .slice (some ⟨O137, 0, none⟩) 2 2), (251, .int .i64 2), (252, .int .i64 (((v : Nat) : Int) : Int))] ∧ m = 2 - v ∧ Y147.heap.size ≤ wr.heap.size ∧ Ext w wr ∧ Ext X18 wr ∧ Ext w33 wr ∧ Ext w49 wr ∧ Ext Y147 wr ∧ BoxAt wr O36 0 (.int .i64 (pk35 : Int)) ∧ BoxAt wr O36 1 (.int .i64 ((pk35 + 1) + pk44 : Int)) ∧ BoxAt wr O52 0 (.slice a3 k3 c3) ∧ BoxAt wr O52 1 (.slice a1 k1 c1) ∧ BoxAt wr O52 2 (.slice a2 (min n2 25) c2) ∧ BoxAt wr O137 0 (.int .i64 (xO.id : Int)) ∧ BoxAt wr O137 1 (.int .i64 (xO.od : Int)) ∧ BoxAt wr O137 2 (.int .i64 (xO.cl : Int)) ∧ BoxAt wr O137 3 (.int .i64 (xO.sa : Int)) ∧ BoxAt wr O137 4 (.int .i64 (xO.fr : Int)) ∧ BoxAt wr O137 5 (.int .i64 (xO.to : Int)) ∧ BoxAt wr O137 6 (.int .i64 (xO.lk : Int)) ∧ BoxAt wr O137 7 (.int .i64 (xO.sz : Int)) ∧ BoxAt wr O137 8 (.slice aS nS kS) ∧ BoxAt wr O137 9 (.int .i64 (op.id : Int)) ∧ BoxAt wr O137 10 (.int .i64 (op.od : Int)) ∧ BoxAt wr O137 11 (.int .i64 (op.cl : Int)) ∧ BoxAt wr O137 12 (.int .i64 (op.sa : Int)) ∧ BoxAt wr O137 13 (.int .i64 (op.fr : Int)) ∧ BoxAt wr O137 14 (.int .i64 (op.to : Int)) ∧ BoxAt wr O137 15 (.int .i64 (op.lk : Int)) ∧ BoxAt wr O137 16 (.int .i64 (op.sz : Int)) ∧ BoxAt wr O137 17 (.slice a4 (min n4 7) c4) ∧ v ≤ 2) (ws0 := [(5, .int .i64 (i5 : Int)), (19, .bool true), (250, .slice (some ⟨O137, 0, none⟩) 2 2), (251, .int .i64 2), (252, .int .i64 0)]) (by kernel_rfl) _ ⟨0, rfl, rfl, Nat.le_refl _, hE, hX21, hX34, hX51, hX150, bO36_0, bO36_1, bO52_0, bO52_1, bO52_2, bO137_0, bO137_1, bO137_2, bO137_3, bO137_4, bO137_5, bO137_6, bO137_7, bO137_8, bO137_9, bO137_10, bO137_11, bO137_12, bO137_13, bO137_14, bO137_15, bO137_16, bO137_17, Nat.zero_le _⟩ ?_
        clear bO36_0 bO36_1 bO52_0 bO52_1 bO52_2 bO137_0 bO137_1 bO137_2 bO137_3 bO137_4 bO137_5 bO137_6 bO137_7 bO137_8 bO137_9 bO137_10 bO137_11 bO137_12 bO137_13 bO137_14 bO137_15 bO137_16 bO137_17 hE hX21 hX34 hX51 hX150
        rintro m154 L ws w153 ⟨v, rfl, rfl, hs152, hE, hX21, hX34, hX51, hX150, bO36_0, bO36_1, bO52_0, bO52_1, bO52_2, bO137_0, bO137_1, bO137_2, bO137_3, bO137_4, bO137_5, bO137_6, bO137_7, bO137_8, bO137_9, bO137_10, bO137_11, bO137_12, bO137_13, bO137_14, bO137_15, bO137_16, bO137_17, hv⟩
        by_cases hlt : v < 2
        ·
          obtain ⟨ov, hov⟩ := sel2O (y := Mem.few op (min n4 7)) hlt ⟨(bO137_0.1), (bO137_1.1), (bO137_2.1), (bO137_3.1), (bO137_4.1), (bO137_5.1), (bO137_6.1), (bO137_7.1), _, _, _, (bO137_8.1), hSO.ext hX150⟩ ⟨(bO137_9.1), (bO137_10.1), (bO137_11.1), (bO137_12.1), (bO137_13.1), (bO137_14.1), (bO137_15.1), (bO137_16.1), _, _, _, (bO137_17.1), (hS4.take (m := min n4 7) (by omega) (by omega)).ext hE⟩
          obtain ⟨v0, v1, v2, v3, v4, v5, v6, v7, aV, nV, kV, v8, hSV⟩ := hov
          have hX155 : Ext w153 w153 := Ext.refl _
          refine cw_seq ?_
          refine cw_plain ?_
          refine pl_take (.bool true) rfl (by kernel_rfl) (by kernel_rfl) (by kernel_rfl) (ev_dec (show _ = Result.ok (Next.value (Value.bool (decide ((((v : Nat) : Int) : Int) < (2 : Int))))) _ from by kernel_rfl) (by omega)) ?_
          refine pl_nil ?_
          refine qw_then ?_
          refine cw_seq ?_
          refine cw_t (by kernel_rfl) ?_
          refine cw_skip ?_
          refine qw_then ?_
          refine cw_seq ?_
          refine cw_block ?_
          refine cw_seq ?_
          refine cw_plain ?_
          refine pl_take (.pointer (some ⟨O137, v * 9, none⟩)) rfl (by kernel_rfl) (by kernel_rfl) (by kernel_rfl) (ex_index (p := .slice (some ⟨O137, 0, none⟩) 2 2) (i := .int .i64 ((v : Nat) : Int)) rfl (by kernel_rfl) (by kernel_rfl) (ix50z (k := v) (by omega))) ?_
          refine pl_take (.agg #[.int .i64 (ov.id : Int), .int .i64 (ov.od : Int), .int .i64 (ov.cl : Int), .int .i64 (ov.sa : Int), .int .i64 (ov.fr : Int), .int .i64 (ov.to : Int), .int .i64 (ov.lk : Int), .int .i64 (ov.sz : Int), .slice aV nV kV]) rfl (by kernel_rfl) (by kernel_rfl) (by kernel_rfl) (ex_load rfl (by kernel_rfl) (ld31 (v0) (v1) (v2) (v3) (v4) (v5) (v6) (v7) (v8))) ?_
          refine pl_step rfl (by kernel_rfl) (by kernel_rfl) (by kernel_rfl) (sn_new (us := #[.int .i64 0, .int .i64 0, .int .i64 0, .int .i64 0, .int .i64 0, .int .i64 0, .int .i64 0, .int .i64 0, .slice none 0 0]) (t := 31) (by kernel_rfl) ?_)
          intro O156 X157 hO hOs hb hbx
          have hzO156 := hO; have hyO156 := hOs; clear hO hOs
          have bO156_0 : BoxAt X157 O156 0 (.int .i64 0) := hbx 0 _ rfl
          have bO156_1 : BoxAt X157 O156 1 (.int .i64 0) := hbx 1 _ rfl
          have bO156_2 : BoxAt X157 O156 2 (.int .i64 0) := hbx 2 _ rfl
          have bO156_3 : BoxAt X157 O156 3 (.int .i64 0) := hbx 3 _ rfl
          have bO156_4 : BoxAt X157 O156 4 (.int .i64 0) := hbx 4 _ rfl
          have bO156_5 : BoxAt X157 O156 5 (.int .i64 0) := hbx 5 _ rfl
          have bO156_6 : BoxAt X157 O156 6 (.int .i64 0) := hbx 6 _ rfl
          have bO156_7 : BoxAt X157 O156 7 (.int .i64 0) := hbx 7 _ rfl
          have bO156_8 : BoxAt X157 O156 8 (.slice none 0 0) := hbx 8 _ rfl
          clear hbx
          replace hE := hE.trans hb
          replace hX21 := hX21.trans hb
          replace hX34 := hX34.trans hb
          replace hX51 := hX51.trans hb
          replace hX150 := hX150.trans hb
          replace hX155 := hX155.trans hb
          replace bO36_0 := BoxAt.ext hb bO36_0
          replace bO36_1 := BoxAt.ext hb bO36_1
          replace bO52_0 := BoxAt.ext hb bO52_0
          replace bO52_1 := BoxAt.ext hb bO52_1
          replace bO52_2 := BoxAt.ext hb bO52_2
          replace bO137_0 := BoxAt.ext hb bO137_0
          replace bO137_1 := BoxAt.ext hb bO137_1
          replace bO137_2 := BoxAt.ext hb bO137_2
          replace bO137_3 := BoxAt.ext hb bO137_3
          replace bO137_4 := BoxAt.ext hb bO137_4
          replace bO137_5 := BoxAt.ext hb bO137_5
          replace bO137_6 := BoxAt.ext hb bO137_6
          replace bO137_7 := BoxAt.ext hb bO137_7
          replace bO137_8 := BoxAt.ext hb bO137_8
          replace bO137_9 := BoxAt.ext hb bO137_9
          replace bO137_10 := BoxAt.ext hb bO137_10
          replace bO137_11 := BoxAt.ext hb bO137_11
          replace bO137_12 := BoxAt.ext hb bO137_12
          replace bO137_13 := BoxAt.ext hb bO137_13
          replace bO137_14 := BoxAt.ext hb bO137_14
          replace bO137_15 := BoxAt.ext hb bO137_15
          replace bO137_16 := BoxAt.ext hb bO137_16
          replace bO137_17 := BoxAt.ext hb bO137_17
          have hs158 := hb.size
          clear hb
          have lt159 := bO156_0.lt
          refine pl_put rfl (by kernel_rfl) (by kernel_rfl) (sn_setK9 (O := O156) (j := 0) (v0 := .int .i64 (ov.id : Int)) (v1 := .int .i64 (ov.od : Int)) (v2 := .int .i64 (ov.cl : Int)) (v3 := .int .i64 (ov.sa : Int)) (v4 := .int .i64 (ov.fr : Int)) (v5 := .int .i64 (ov.to : Int)) (v6 := .int .i64 (ov.lk : Int)) (v7 := .int .i64 (ov.sz : Int)) (v8 := .slice aV nV kV) (ex_store (p := .pointer (some ⟨O156, 0, none⟩)) (v := .agg #[.int .i64 (ov.id : Int), .int .i64 (ov.od : Int), .int .i64 (ov.cl : Int), .int .i64 (ov.sa : Int), .int .i64 (ov.fr : Int), .int .i64 (ov.to : Int), .int .i64 (ov.lk : Int), .int .i64 (ov.sz : Int), .slice aV nV kV]) rfl (by kernel_rfl) (by kernel_rfl) (st31 bO156_0.1 bO156_0.2 bO156_1.1 bO156_1.2 bO156_2.1 bO156_2.2 bO156_3.1 bO156_3.2 bO156_4.1 bO156_4.2 bO156_5.1 bO156_5.2 bO156_6.1 bO156_6.2 bO156_7.1 bO156_7.2 bO156_8.1 bO156_8.2)) bO156_0 bO156_1 bO156_2 bO156_3 bO156_4 bO156_5 bO156_6 bO156_7 bO156_8 ?_)
          intro X160 ho hv0 hv1 hv2 hv3 hv4 hv5 hv6 hv7 hv8 hk
          replace hE := ho.ext hE (Nat.le_trans (Nat.le_trans hs7 (Nat.le_trans hs11 (Nat.le_trans hs15 (Nat.le_trans hs19 (Nat.le_trans hs23 (Nat.le_trans hs25 (Nat.le_trans hs26 (Nat.le_trans hs38 (Nat.le_trans hs41 (Nat.le_trans hs43 (Nat.le_trans hs46 (Nat.le_trans hs48 (Nat.le_trans hs50 (Nat.le_trans hs54 (Nat.le_trans hs56 (Nat.le_trans hn148 hs152)))))))))))))))) (Nat.le_of_eq hzO156))
          replace hX21 := ho.ext hX21 (Nat.le_trans (Nat.le_trans hs23 (Nat.le_trans hs25 (Nat.le_trans hs26 (Nat.le_trans hs38 (Nat.le_trans hs41 (Nat.le_trans hs43 (Nat.le_trans hs46 (Nat.le_trans hs48 (Nat.le_trans hs50 (Nat.le_trans hs54 (Nat.le_trans hs56 (Nat.le_trans hn148 hs152)))))))))))) (Nat.le_of_eq hzO156))
          replace hX34 := ho.ext hX34 (Nat.le_trans (Nat.le_trans hs38 (Nat.le_trans hs41 (Nat.le_trans hs43 (Nat.le_trans hs46 (Nat.le_trans hs48 (Nat.le_trans hs50 (Nat.le_trans hs54 (Nat.le_trans hs56 (Nat.le_trans hn148 hs152))))))))) (Nat.le_of_eq hzO156))
          replace hX51 := ho.ext hX51 (Nat.le_trans (Nat.le_trans hs54 (Nat.le_trans hs56 (Nat.le_trans hn148 hs152))) (Nat.le_of_eq hzO156))
          replace hX150 := ho.ext hX150 (Nat.le_trans hs152 (Nat.le_of_eq hzO156))
          replace hX155 := ho.ext hX155 (Nat.le_of_eq hzO156)
          replace bO36_0 := ho.box (Nat.ne_of_gt (Nat.lt_of_lt_of_le lt39 (Nat.le_trans (Nat.le_trans hs41 (Nat.le_trans hs43 (Nat.le_trans hs46 (Nat.le_trans hs48 (Nat.le_trans hs50 (Nat.le_trans hs54 (Nat.le_trans hs56 (Nat.le_trans hn148 hs152)))))))) (Nat.le_of_eq hzO156)))) bO36_0
          replace bO36_1 := ho.box (Nat.ne_of_gt (Nat.lt_of_lt_of_le lt39 (Nat.le_trans (Nat.le_trans hs41 (Nat.le_trans hs43 (Nat.le_trans hs46 (Nat.le_trans hs48 (Nat.le_trans hs50 (Nat.le_trans hs54 (Nat.le_trans hs56 (Nat.le_trans hn148 hs152)))))))) (Nat.le_of_eq hzO156)))) bO36_1
          replace bO52_0 := ho.box (Nat.ne_of_gt (Nat.lt_of_lt_of_le lt55 (Nat.le_trans (Nat.le_trans hs56 (Nat.le_trans hn148 hs152)) (Nat.le_of_eq hzO156)))) bO52_0
          replace bO52_1 := ho.box (Nat.ne_of_gt (Nat.lt_of_lt_of_le lt55 (Nat.le_trans (Nat.le_trans hs56 (Nat.le_trans hn148 hs152)) (Nat.le_of_eq hzO156)))) bO52_1
          replace bO52_2 := ho.box (Nat.ne_of_gt (Nat.lt_of_lt_of_le lt55 (Nat.le_trans (Nat.le_trans hs56 (Nat.le_trans hn148 hs152)) (Nat.le_of_eq hzO156)))) bO52_2
          replace bO137_0 := ho.box (Nat.ne_of_gt (Nat.lt_of_lt_of_le lt151 (Nat.le_trans hs152 (Nat.le_of_eq hzO156)))) bO137_0
          replace bO137_1 := ho.box (Nat.ne_of_gt (Nat.lt_of_lt_of_le lt151 (Nat.le_trans hs152 (Nat.le_of_eq hzO156)))) bO137_1
          replace bO137_2 := ho.box (Nat.ne_of_gt (Nat.lt_of_lt_of_le lt151 (Nat.le_trans hs152 (Nat.le_of_eq hzO156)))) bO137_2
          replace bO137_3 := ho.box (Nat.ne_of_gt (Nat.lt_of_lt_of_le lt151 (Nat.le_trans hs152 (Nat.le_of_eq hzO156)))) bO137_3
          replace bO137_4 := ho.box (Nat.ne_of_gt (Nat.lt_of_lt_of_le lt151 (Nat.le_trans hs152 (Nat.le_of_eq hzO156)))) bO137_4
          replace bO137_5 := ho.box (Nat.ne_of_gt (Nat.lt_of_lt_of_le lt151 (Nat.le_trans hs152 (Nat.le_of_eq hzO156)))) bO137_5
          replace bO137_6 := ho.box (Nat.ne_of_gt (Nat.lt_of_lt_of_le lt151 (Nat.le_trans hs152 (Nat.le_of_eq hzO156)))) bO137_6
          replace bO137_7 := ho.box (Nat.ne_of_gt (Nat.lt_of_lt_of_le lt151 (Nat.le_trans hs152 (Nat.le_of_eq hzO156)))) bO137_7
          replace bO137_8 := ho.box (Nat.ne_of_gt (Nat.lt_of_lt_of_le lt151 (Nat.le_trans hs152 (Nat.le_of_eq hzO156)))) bO137_8
          replace bO137_9 := ho.box (Nat.ne_of_gt (Nat.lt_of_lt_of_le lt151 (Nat.le_trans hs152 (Nat.le_of_eq hzO156)))) bO137_9
          replace bO137_10 := ho.box (Nat.ne_of_gt (Nat.lt_of_lt_of_le lt151 (Nat.le_trans hs152 (Nat.le_of_eq hzO156)))) bO137_10
          replace bO137_11 := ho.box (Nat.ne_of_gt (Nat.lt_of_lt_of_le lt151 (Nat.le_trans hs152 (Nat.le_of_eq hzO156)))) bO137_11
          replace bO137_12 := ho.box (Nat.ne_of_gt (Nat.lt_of_lt_of_le lt151 (Nat.le_trans hs152 (Nat.le_of_eq hzO156)))) bO137_12
          replace bO137_13 := ho.box (Nat.ne_of_gt (Nat.lt_of_lt_of_le lt151 (Nat.le_trans hs152 (Nat.le_of_eq hzO156)))) bO137_13
          replace bO137_14 := ho.box (Nat.ne_of_gt (Nat.lt_of_lt_of_le lt151 (Nat.le_trans hs152 (Nat.le_of_eq hzO156)))) bO137_14
          replace bO137_15 := ho.box (Nat.ne_of_gt (Nat.lt_of_lt_of_le lt151 (Nat.le_trans hs152 (Nat.le_of_eq hzO156)))) bO137_15
          replace bO137_16 := ho.box (Nat.ne_of_gt (Nat.lt_of_lt_of_le lt151 (Nat.le_trans hs152 (Nat.le_of_eq hzO156)))) bO137_16
          replace bO137_17 := ho.box (Nat.ne_of_gt (Nat.lt_of_lt_of_le lt151 (Nat.le_trans hs152 (Nat.le_of_eq hzO156)))) bO137_17
          have hs161 : X157.heap.size ≤ X160.heap.size := Nat.le_of_eq ho.size.symm
          clear ho hk bO156_0 bO156_1 bO156_2 bO156_3 bO156_4 bO156_5 bO156_6 bO156_7 bO156_8
          have bO156_0 := hv0; clear hv0
          have bO156_1 := hv1; clear hv1
          have bO156_2 := hv2; clear hv2
          have bO156_3 := hv3; clear hv3
          have bO156_4 := hv4; clear hv4
          have bO156_5 := hv5; clear hv5
          have bO156_6 := hv6; clear hv6
          have bO156_7 := hv7; clear hv7
          have bO156_8 := hv8; clear hv8
          refine pl_nil ?_
          refine qw_then ?_
          refine cw_seq ?_
          refine cw_plain ?_
          refine pl_take (.agg #[.int .i64 (ov.id : Int), .int .i64 (ov.od : Int), .int .i64 (ov.cl : Int), .int .i64 (ov.sa : Int), .int .i64 (ov.fr : Int), .int .i64 (ov.to : Int), .int .i64 (ov.lk : Int), .int .i64 (ov.sz : Int), .slice aV nV kV]) rfl (by kernel_rfl) (by kernel_rfl) (by kernel_rfl) (ex_load rfl (by kernel_rfl) (ld31 (bO156_0.1) (bO156_1.1) (bO156_2.1) (bO156_3.1) (bO156_4.1) (bO156_5.1) (bO156_6.1) (bO156_7.1) (bO156_8.1))) ?_
          refine pl_step rfl (by kernel_rfl) (by kernel_rfl) (by kernel_rfl) (sn_call (f := 28) (args := #[.agg #[.int .i64 (ov.id : Int), .int .i64 (ov.od : Int), .int .i64 (ov.cl : Int), .int .i64 (ov.sa : Int), .int .i64 (ov.fr : Int), .int .i64 (ov.to : Int), .int .i64 (ov.lk : Int), .int .i64 (ov.sz : Int), .slice aV nV kV]]) (by kernel_rfl) ((Worst_c (o := ov) _ _ hSV hX155).mono ?_))
          rintro e w162 ⟨rfl, hb⟩
          replace hE := hE.trans hb
          replace hX21 := hX21.trans hb
          replace hX34 := hX34.trans hb
          replace hX51 := hX51.trans hb
          replace hX150 := hX150.trans hb
          replace hX155 := hX155.trans hb
          replace bO36_0 := BoxAt.ext hb bO36_0
          replace bO36_1 := BoxAt.ext hb bO36_1
          replace bO52_0 := BoxAt.ext hb bO52_0
          replace bO52_1 := BoxAt.ext hb bO52_1
          replace bO52_2 := BoxAt.ext hb bO52_2
          replace bO137_0 := BoxAt.ext hb bO137_0
          replace bO137_1 := BoxAt.ext hb bO137_1
          replace bO137_2 := BoxAt.ext hb bO137_2
          replace bO137_3 := BoxAt.ext hb bO137_3
          replace bO137_4 := BoxAt.ext hb bO137_4
          replace bO137_5 := BoxAt.ext hb bO137_5
          replace bO137_6 := BoxAt.ext hb bO137_6
          replace bO137_7 := BoxAt.ext hb bO137_7
          replace bO137_8 := BoxAt.ext hb bO137_8
          replace bO137_9 := BoxAt.ext hb bO137_9
          replace bO137_10 := BoxAt.ext hb bO137_10
          replace bO137_11 := BoxAt.ext hb bO137_11
          replace bO137_12 := BoxAt.ext hb bO137_12
          replace bO137_13 := BoxAt.ext hb bO137_13
          replace bO137_14 := BoxAt.ext hb bO137_14
          replace bO137_15 := BoxAt.ext hb bO137_15
          replace bO137_16 := BoxAt.ext hb bO137_16
          replace bO137_17 := BoxAt.ext hb bO137_17
          replace bO156_0 := BoxAt.ext hb bO156_0
          replace bO156_1 := BoxAt.ext hb bO156_1
          replace bO156_2 := BoxAt.ext hb bO156_2
          replace bO156_3 := BoxAt.ext hb bO156_3
          replace bO156_4 := BoxAt.ext hb bO156_4
          replace bO156_5 := BoxAt.ext hb bO156_5
          replace bO156_6 := BoxAt.ext hb bO156_6
          replace bO156_7 := BoxAt.ext hb bO156_7
          replace bO156_8 := BoxAt.ext hb bO156_8
          have hs163 := hb.size
          clear hb
          refine ⟨_, rfl, ?_⟩
          refine pT (.tuple #[.agg #[.int .i64 ((Mem.freeV ov ((ov.sl.length : Int) - 1)).im : Int), .int .i64 ((Mem.freeV ov ((ov.sl.length : Int) - 1)).un : Int), .int .i64 ((Mem.freeV ov ((ov.sl.length : Int) - 1)).fr : Int), .int .i64 ((Mem.freeV ov ((ov.sl.length : Int) - 1)).to : Int)], .int .i64 (Mem.freeE ov ((ov.sl.length : Int) - 1) : Int)]) ?_
          refine pT (.agg #[.int .i64 ((Mem.freeV ov ((ov.sl.length : Int) - 1)).im : Int), .int .i64 ((Mem.freeV ov ((ov.sl.length : Int) - 1)).un : Int), .int .i64 ((Mem.freeV ov ((ov.sl.length : Int) - 1)).fr : Int), .int .i64 ((Mem.freeV ov ((ov.sl.length : Int) - 1)).to : Int)]) ?_
          refine pT (.int .i64 (Mem.freeE ov ((ov.sl.length : Int) - 1) : Int)) ?_
          refine pl_step rfl (by kernel_rfl) (by kernel_rfl) (by kernel_rfl) (sn_new (us := #[.int .i64 0, .int .i64 0, .int .i64 0, .int .i64 0]) (t := 26) (by kernel_rfl) ?_)
          intro O164 X165 hO hOs hb hbx
          have hzO164 := hO; have hyO164 := hOs; clear hO hOs
          have bO164_0 : BoxAt X165 O164 0 (.int .i64 0) := hbx 0 _ rfl
          have bO164_1 : BoxAt X165 O164 1 (.int .i64 0) := hbx 1 _ rfl
          have bO164_2 : BoxAt X165 O164 2 (.int .i64 0) := hbx 2 _ rfl
          have bO164_3 : BoxAt X165 O164 3 (.int .i64 0) := hbx 3 _ rfl
          clear hbx
          replace hE := hE.trans hb
          replace hX21 := hX21.trans hb
          replace hX34 := hX34.trans hb
          replace hX51 := hX51.trans hb
          replace hX150 := hX150.trans hb
          replace hX155 := hX155.trans hb
          replace bO36_0 := BoxAt.ext hb bO36_0
          replace bO36_1 := BoxAt.ext hb bO36_1
          replace bO52_0 := BoxAt.ext hb bO52_0
          replace bO52_1 := BoxAt.ext hb bO52_1
          replace bO52_2 := BoxAt.ext hb bO52_2
          replace bO137_0 := BoxAt.ext hb bO137_0
          replace bO137_1 := BoxAt.ext hb bO137_1
          replace bO137_2 := BoxAt.ext hb bO137_2
          replace bO137_3 := BoxAt.ext hb bO137_3
          replace bO137_4 := BoxAt.ext hb bO137_4
          replace bO137_5 := BoxAt.ext hb bO137_5
          replace bO137_6 := BoxAt.ext hb bO137_6
          replace bO137_7 := BoxAt.ext hb bO137_7
          replace bO137_8 := BoxAt.ext hb bO137_8
          replace bO137_9 := BoxAt.ext hb bO137_9
          replace bO137_10 := BoxAt.ext hb bO137_10
          replace bO137_11 := BoxAt.ext hb bO137_11
          replace bO137_12 := BoxAt.ext hb bO137_12
          replace bO137_13 := BoxAt.ext hb bO137_13
          replace bO137_14 := BoxAt.ext hb bO137_14
          replace bO137_15 := BoxAt.ext hb bO137_15
          replace bO137_16 := BoxAt.ext hb bO137_16
          replace bO137_17 := BoxAt.ext hb bO137_17
          replace bO156_0 := BoxAt.ext hb bO156_0
          replace bO156_1 := BoxAt.ext hb bO156_1
          replace bO156_2 := BoxAt.ext hb bO156_2
          replace bO156_3 := BoxAt.ext hb bO156_3
          replace bO156_4 := BoxAt.ext hb bO156_4
          replace bO156_5 := BoxAt.ext hb bO156_5
          replace bO156_6 := BoxAt.ext hb bO156_6
          replace bO156_7 := BoxAt.ext hb bO156_7
          replace bO156_8 := BoxAt.ext hb bO156_8
          have hs166 := hb.size
          clear hb
          have lt167 := bO164_0.lt
          refine pl_put rfl (by kernel_rfl) (by kernel_rfl) (sn_setK4 (O := O164) (j := 0) (v0 := .int .i64 ((Mem.freeV ov ((ov.sl.length : Int) - 1)).im : Int)) (v1 := .int .i64 ((Mem.freeV ov ((ov.sl.length : Int) - 1)).un : Int)) (v2 := .int .i64 ((Mem.freeV ov ((ov.sl.length : Int) - 1)).fr : Int)) (v3 := .int .i64 ((Mem.freeV ov ((ov.sl.length : Int) - 1)).to : Int)) (ex_store (p := .pointer (some ⟨O164, 0, none⟩)) (v := .agg #[.int .i64 ((Mem.freeV ov ((ov.sl.length : Int) - 1)).im : Int), .int .i64 ((Mem.freeV ov ((ov.sl.length : Int) - 1)).un : Int), .int .i64 ((Mem.freeV ov ((ov.sl.length : Int) - 1)).fr : Int), .int .i64 ((Mem.freeV ov ((ov.sl.length : Int) - 1)).to : Int)]) rfl (by kernel_rfl) (by kernel_rfl) (st26 bO164_0.1 bO164_0.2 bO164_1.1 bO164_1.2 bO164_2.1 bO164_2.2 bO164_3.1 bO164_3.2)) bO164_0 bO164_1 bO164_2 bO164_3 ?_)
          intro X168 ho hv0 hv1 hv2 hv3 hk
          replace hE := ho.ext hE (Nat.le_trans (Nat.le_trans hs7 (Nat.le_trans hs11 (Nat.le_trans hs15 (Nat.le_trans hs19 (Nat.le_trans hs23 (Nat.le_trans hs25 (Nat.le_trans hs26 (Nat.le_trans hs38 (Nat.le_trans hs41 (Nat.le_trans hs43 (Nat.le_trans hs46 (Nat.le_trans hs48 (Nat.le_trans hs50 (Nat.le_trans hs54 (Nat.le_trans hs56 (Nat.le_trans hn148 (Nat.le_trans hs152 (Nat.le_trans hs158 (Nat.le_trans hs161 hs163))))))))))))))))))) (Nat.le_of_eq hzO164))
          replace hX21 := ho.ext hX21 (Nat.le_trans (Nat.le_trans hs23 (Nat.le_trans hs25 (Nat.le_trans hs26 (Nat.le_trans hs38 (Nat.le_trans hs41 (Nat.le_trans hs43 (Nat.le_trans hs46 (Nat.le_trans hs48 (Nat.le_trans hs50 (Nat.le_trans hs54 (Nat.le_trans hs56 (Nat.le_trans hn148 (Nat.le_trans hs152 (Nat.le_trans hs158 (Nat.le_trans hs161 hs163))))))))))))))) (Nat.le_of_eq hzO164))
          replace hX34 := ho.ext hX34 (Nat.le_trans (Nat.le_trans hs38 (Nat.le_trans hs41 (Nat.le_trans hs43 (Nat.le_trans hs46 (Nat.le_trans hs48 (Nat.le_trans hs50 (Nat.le_trans hs54 (Nat.le_trans hs56 (Nat.le_trans hn148 (Nat.le_trans hs152 (Nat.le_trans hs158 (Nat.le_trans hs161 hs163)))))))))))) (Nat.le_of_eq hzO164))
          replace hX51 := ho.ext hX51 (Nat.le_trans (Nat.le_trans hs54 (Nat.le_trans hs56 (Nat.le_trans hn148 (Nat.le_trans hs152 (Nat.le_trans hs158 (Nat.le_trans hs161 hs163)))))) (Nat.le_of_eq hzO164))
          replace hX150 := ho.ext hX150 (Nat.le_trans (Nat.le_trans hs152 (Nat.le_trans hs158 (Nat.le_trans hs161 hs163))) (Nat.le_of_eq hzO164))
          replace hX155 := ho.ext hX155 (Nat.le_trans (Nat.le_trans hs158 (Nat.le_trans hs161 hs163)) (Nat.le_of_eq hzO164))
          replace bO36_0 := ho.box (Nat.ne_of_gt (Nat.lt_of_lt_of_le lt39 (Nat.le_trans (Nat.le_trans hs41 (Nat.le_trans hs43 (Nat.le_trans hs46 (Nat.le_trans hs48 (Nat.le_trans hs50 (Nat.le_trans hs54 (Nat.le_trans hs56 (Nat.le_trans hn148 (Nat.le_trans hs152 (Nat.le_trans hs158 (Nat.le_trans hs161 hs163))))))))))) (Nat.le_of_eq hzO164)))) bO36_0
          replace bO36_1 := ho.box (Nat.ne_of_gt (Nat.lt_of_lt_of_le lt39 (Nat.le_trans (Nat.le_trans hs41 (Nat.le_trans hs43 (Nat.le_trans hs46 (Nat.le_trans hs48 (Nat.le_trans hs50 (Nat.le_trans hs54 (Nat.le_trans hs56 (Nat.le_trans hn148 (Nat.le_trans hs152 (Nat.le_trans hs158 (Nat.le_trans hs161 hs163))))))))))) (Nat.le_of_eq hzO164)))) bO36_1
          replace bO52_0 := ho.box (Nat.ne_of_gt (Nat.lt_of_lt_of_le lt55 (Nat.le_trans (Nat.le_trans hs56 (Nat.le_trans hn148 (Nat.le_trans hs152 (Nat.le_trans hs158 (Nat.le_trans hs161 hs163))))) (Nat.le_of_eq hzO164)))) bO52_0
          replace bO52_1 := ho.box (Nat.ne_of_gt (Nat.lt_of_lt_of_le lt55 (Nat.le_trans (Nat.le_trans hs56 (Nat.le_trans hn148 (Nat.le_trans hs152 (Nat.le_trans hs158 (Nat.le_trans hs161 hs163))))) (Nat.le_of_eq hzO164)))) bO52_1
          replace bO52_2 := ho.box (Nat.ne_of_gt (Nat.lt_of_lt_of_le lt55 (Nat.le_trans (Nat.le_trans hs56 (Nat.le_trans hn148 (Nat.le_trans hs152 (Nat.le_trans hs158 (Nat.le_trans hs161 hs163))))) (Nat.le_of_eq hzO164)))) bO52_2
          replace bO137_0 := ho.box (Nat.ne_of_gt (Nat.lt_of_lt_of_le lt151 (Nat.le_trans (Nat.le_trans hs152 (Nat.le_trans hs158 (Nat.le_trans hs161 hs163))) (Nat.le_of_eq hzO164)))) bO137_0
          replace bO137_1 := ho.box (Nat.ne_of_gt (Nat.lt_of_lt_of_le lt151 (Nat.le_trans (Nat.le_trans hs152 (Nat.le_trans hs158 (Nat.le_trans hs161 hs163))) (Nat.le_of_eq hzO164)))) bO137_1
          replace bO137_2 := ho.box (Nat.ne_of_gt (Nat.lt_of_lt_of_le lt151 (Nat.le_trans (Nat.le_trans hs152 (Nat.le_trans hs158 (Nat.le_trans hs161 hs163))) (Nat.le_of_eq hzO164)))) bO137_2
          replace bO137_3 := ho.box (Nat.ne_of_gt (Nat.lt_of_lt_of_le lt151 (Nat.le_trans (Nat.le_trans hs152 (Nat.le_trans hs158 (Nat.le_trans hs161 hs163))) (Nat.le_of_eq hzO164)))) bO137_3
          replace bO137_4 := ho.box (Nat.ne_of_gt (Nat.lt_of_lt_of_le lt151 (Nat.le_trans (Nat.le_trans hs152 (Nat.le_trans hs158 (Nat.le_trans hs161 hs163))) (Nat.le_of_eq hzO164)))) bO137_4
          replace bO137_5 := ho.box (Nat.ne_of_gt (Nat.lt_of_lt_of_le lt151 (Nat.le_trans (Nat.le_trans hs152 (Nat.le_trans hs158 (Nat.le_trans hs161 hs163))) (Nat.le_of_eq hzO164)))) bO137_5
          replace bO137_6 := ho.box (Nat.ne_of_gt (Nat.lt_of_lt_of_le lt151 (Nat.le_trans (Nat.le_trans hs152 (Nat.le_trans hs158 (Nat.le_trans hs161 hs163))) (Nat.le_of_eq hzO164)))) bO137_6
          replace bO137_7 := ho.box (Nat.ne_of_gt (Nat.lt_of_lt_of_le lt151 (Nat.le_trans (Nat.le_trans hs152 (Nat.le_trans hs158 (Nat.le_trans hs161 hs163))) (Nat.le_of_eq hzO164)))) bO137_7
          replace bO137_8 := ho.box (Nat.ne_of_gt (Nat.lt_of_lt_of_le lt151 (Nat.le_trans (Nat.le_trans hs152 (Nat.le_trans hs158 (Nat.le_trans hs161 hs163))) (Nat.le_of_eq hzO164)))) bO137_8
          replace bO137_9 := ho.box (Nat.ne_of_gt (Nat.lt_of_lt_of_le lt151 (Nat.le_trans (Nat.le_trans hs152 (Nat.le_trans hs158 (Nat.le_trans hs161 hs163))) (Nat.le_of_eq hzO164)))) bO137_9
          replace bO137_10 := ho.box (Nat.ne_of_gt (Nat.lt_of_lt_of_le lt151 (Nat.le_trans (Nat.le_trans hs152 (Nat.le_trans hs158 (Nat.le_trans hs161 hs163))) (Nat.le_of_eq hzO164)))) bO137_10
          replace bO137_11 := ho.box (Nat.ne_of_gt (Nat.lt_of_lt_of_le lt151 (Nat.le_trans (Nat.le_trans hs152 (Nat.le_trans hs158 (Nat.le_trans hs161 hs163))) (Nat.le_of_eq hzO164)))) bO137_11
          replace bO137_12 := ho.box (Nat.ne_of_gt (Nat.lt_of_lt_of_le lt151 (Nat.le_trans (Nat.le_trans hs152 (Nat.le_trans hs158 (Nat.le_trans hs161 hs163))) (Nat.le_of_eq hzO164)))) bO137_12
          replace bO137_13 := ho.box (Nat.ne_of_gt (Nat.lt_of_lt_of_le lt151 (Nat.le_trans (Nat.le_trans hs152 (Nat.le_trans hs158 (Nat.le_trans hs161 hs163))) (Nat.le_of_eq hzO164)))) bO137_13
          replace bO137_14 := ho.box (Nat.ne_of_gt (Nat.lt_of_lt_of_le lt151 (Nat.le_trans (Nat.le_trans hs152 (Nat.le_trans hs158 (Nat.le_trans hs161 hs163))) (Nat.le_of_eq hzO164)))) bO137_14
          replace bO137_15 := ho.box (Nat.ne_of_gt (Nat.lt_of_lt_of_le lt151 (Nat.le_trans (Nat.le_trans hs152 (Nat.le_trans hs158 (Nat.le_trans hs161 hs163))) (Nat.le_of_eq hzO164)))) bO137_15
          replace bO137_16 := ho.box (Nat.ne_of_gt (Nat.lt_of_lt_of_le lt151 (Nat.le_trans (Nat.le_trans hs152 (Nat.le_trans hs158 (Nat.le_trans hs161 hs163))) (Nat.le_of_eq hzO164)))) bO137_16
          replace bO137_17 := ho.box (Nat.ne_of_gt (Nat.lt_of_lt_of_le lt151 (Nat.le_trans (Nat.le_trans hs152 (Nat.le_trans hs158 (Nat.le_trans hs161 hs163))) (Nat.le_of_eq hzO164)))) bO137_17
          replace bO156_0 := ho.box (Nat.ne_of_gt (Nat.lt_of_lt_of_le lt159 (Nat.le_trans (Nat.le_trans hs161 hs163) (Nat.le_of_eq hzO164)))) bO156_0
          replace bO156_1 := ho.box (Nat.ne_of_gt (Nat.lt_of_lt_of_le lt159 (Nat.le_trans (Nat.le_trans hs161 hs163) (Nat.le_of_eq hzO164)))) bO156_1
          replace bO156_2 := ho.box (Nat.ne_of_gt (Nat.lt_of_lt_of_le lt159 (Nat.le_trans (Nat.le_trans hs161 hs163) (Nat.le_of_eq hzO164)))) bO156_2
          replace bO156_3 := ho.box (Nat.ne_of_gt (Nat.lt_of_lt_of_le lt159 (Nat.le_trans (Nat.le_trans hs161 hs163) (Nat.le_of_eq hzO164)))) bO156_3
          replace bO156_4 := ho.box (Nat.ne_of_gt (Nat.lt_of_lt_of_le lt159 (Nat.le_trans (Nat.le_trans hs161 hs163) (Nat.le_of_eq hzO164)))) bO156_4
          replace bO156_5 := ho.box (Nat.ne_of_gt (Nat.lt_of_lt_of_le lt159 (Nat.le_trans (Nat.le_trans hs161 hs163) (Nat.le_of_eq hzO164)))) bO156_5
          replace bO156_6 := ho.box (Nat.ne_of_gt (Nat.lt_of_lt_of_le lt159 (Nat.le_trans (Nat.le_trans hs161 hs163) (Nat.le_of_eq hzO164)))) bO156_6
          replace bO156_7 := ho.box (Nat.ne_of_gt (Nat.lt_of_lt_of_le lt159 (Nat.le_trans (Nat.le_trans hs161 hs163) (Nat.le_of_eq hzO164)))) bO156_7
          replace bO156_8 := ho.box (Nat.ne_of_gt (Nat.lt_of_lt_of_le lt159 (Nat.le_trans (Nat.le_trans hs161 hs163) (Nat.le_of_eq hzO164)))) bO156_8
          have hs169 : X165.heap.size ≤ X168.heap.size := Nat.le_of_eq ho.size.symm
          clear ho hk bO164_0 bO164_1 bO164_2 bO164_3
          have bO164_0 := hv0; clear hv0
          have bO164_1 := hv1; clear hv1
          have bO164_2 := hv2; clear hv2
          have bO164_3 := hv3; clear hv3
          refine pT (.int .i64 (Mem.freeE ov ((ov.sl.length : Int) - 1) : Int)) ?_
          refine pl_nil ?_
          refine qw_then ?_
          refine cw_clean [5, 19, 47, 48, 49, 250, 251, 252] (ws' := [(5, .int .i64 (i5 : Int)), (19, .bool true), (47, .pointer (some ⟨O156, 0, none⟩)), (48, .pointer (some ⟨O164, 0, none⟩)), (49, .int .i64 (Mem.freeE ov ((ov.sl.length : Int) - 1) : Int)), (250, .slice (some ⟨O137, 0, none⟩) 2 2), (251, .int .i64 2), (252, .int .i64 (((v : Nat) : Int) : Int))]) (by kernel_rfl) (fun L => ?_)
          refine cw_seq ?_
          refine cw_plain ?_
          refine pl_take (.agg #[.int .i64 (ov.id : Int), .int .i64 (ov.od : Int), .int .i64 (ov.cl : Int), .int .i64 (ov.sa : Int), .int .i64 (ov.fr : Int), .int .i64 (ov.to : Int), .int .i64 (ov.lk : Int), .int .i64 (ov.sz : Int), .slice aV nV kV]) rfl (by kernel_rfl) (by kernel_rfl) (by kernel_rfl) (ex_load rfl (by kernel_rfl) (ld31 (bO156_0.1) (bO156_1.1) (bO156_2.1) (bO156_3.1) (bO156_4.1) (bO156_5.1) (bO156_6.1) (bO156_7.1) (bO156_8.1))) ?_
          refine pl_step rfl (by kernel_rfl) (by kernel_rfl) (by kernel_rfl) (sn_call (f := 29) (args := #[.agg #[.int .i64 (ov.id : Int), .int .i64 (ov.od : Int), .int .i64 (ov.cl : Int), .int .i64 (ov.sa : Int), .int .i64 (ov.fr : Int), .int .i64 (ov.to : Int), .int .i64 (ov.lk : Int), .int .i64 (ov.sz : Int), .slice aV nV kV]]) (by kernel_rfl) ((rWorst_c (o := ov) _ _ hSV hX155).mono ?_))
          rintro e w170 ⟨rfl, hb⟩
          replace hE := hE.trans hb
          replace hX21 := hX21.trans hb
          replace hX34 := hX34.trans hb
          replace hX51 := hX51.trans hb
          replace hX150 := hX150.trans hb
          replace hX155 := hX155.trans hb
          replace bO36_0 := BoxAt.ext hb bO36_0
          replace bO36_1 := BoxAt.ext hb bO36_1
          replace bO52_0 := BoxAt.ext hb bO52_0
          replace bO52_1 := BoxAt.ext hb bO52_1
          replace bO52_2 := BoxAt.ext hb bO52_2
          replace bO137_0 := BoxAt.ext hb bO137_0
          replace bO137_1 := BoxAt.ext hb bO137_1
          replace bO137_2 := BoxAt.ext hb bO137_2
          replace bO137_3 := BoxAt.ext hb bO137_3
          replace bO137_4 := BoxAt.ext hb bO137_4
          replace bO137_5 := BoxAt.ext hb bO137_5
          replace bO137_6 := BoxAt.ext hb bO137_6
          replace bO137_7 := BoxAt.ext hb bO137_7
          replace bO137_8 := BoxAt.ext hb bO137_8
          replace bO137_9 := BoxAt.ext hb bO137_9
          replace bO137_10 := BoxAt.ext hb bO137_10
          replace bO137_11 := BoxAt.ext hb bO137_11
          replace bO137_12 := BoxAt.ext hb bO137_12
          replace bO137_13 := BoxAt.ext hb bO137_13
          replace bO137_14 := BoxAt.ext hb bO137_14
          replace bO137_15 := BoxAt.ext hb bO137_15
          replace bO137_16 := BoxAt.ext hb bO137_16
          replace bO137_17 := BoxAt.ext hb bO137_17
          replace bO156_0 := BoxAt.ext hb bO156_0
          replace bO156_1 := BoxAt.ext hb bO156_1
          replace bO156_2 := BoxAt.ext hb bO156_2
          replace bO156_3 := BoxAt.ext hb bO156_3
          replace bO156_4 := BoxAt.ext hb bO156_4
          replace bO156_5 := BoxAt.ext hb bO156_5
          replace bO156_6 := BoxAt.ext hb bO156_6
          replace bO156_7 := BoxAt.ext hb bO156_7
          replace bO156_8 := BoxAt.ext hb bO156_8
          replace bO164_0 := BoxAt.ext hb bO164_0
          replace bO164_1 := BoxAt.ext hb bO164_1
          replace bO164_2 := BoxAt.ext hb bO164_2
          replace bO164_3 := BoxAt.ext hb bO164_3
          have hs171 := hb.size
          clear hb
          refine ⟨_, rfl, ?_⟩
          refine pT (.tuple #[.agg #[.int .i64 ((Mem.freeV ov ((ov.sl.length : Int) - 1)).im : Int), .int .i64 ((Mem.freeV ov ((ov.sl.length : Int) - 1)).un : Int), .int .i64 ((Mem.freeV ov ((ov.sl.length : Int) - 1)).fr : Int), .int .i64 ((Mem.freeV ov ((ov.sl.length : Int) - 1)).to : Int)], .int .i64 (Mem.freeE ov ((ov.sl.length : Int) - 1) : Int)]) ?_
          refine pT (.agg #[.int .i64 ((Mem.freeV ov ((ov.sl.length : Int) - 1)).im : Int), .int .i64 ((Mem.freeV ov ((ov.sl.length : Int) - 1)).un : Int), .int .i64 ((Mem.freeV ov ((ov.sl.length : Int) - 1)).fr : Int), .int .i64 ((Mem.freeV ov ((ov.sl.length : Int) - 1)).to : Int)]) ?_
          refine pT (.int .i64 (Mem.freeE ov ((ov.sl.length : Int) - 1) : Int)) ?_
          refine pl_step rfl (by kernel_rfl) (by kernel_rfl) (by kernel_rfl) (sn_new (us := #[.int .i64 0, .int .i64 0, .int .i64 0, .int .i64 0]) (t := 26) (by kernel_rfl) ?_)
          intro O172 X173 hO hOs hb hbx
          have hzO172 := hO; have hyO172 := hOs; clear hO hOs
          have bO172_0 : BoxAt X173 O172 0 (.int .i64 0) := hbx 0 _ rfl
          have bO172_1 : BoxAt X173 O172 1 (.int .i64 0) := hbx 1 _ rfl
          have bO172_2 : BoxAt X173 O172 2 (.int .i64 0) := hbx 2 _ rfl
          have bO172_3 : BoxAt X173 O172 3 (.int .i64 0) := hbx 3 _ rfl
          clear hbx
          replace hE := hE.trans hb
          replace hX21 := hX21.trans hb
          replace hX34 := hX34.trans hb
          replace hX51 := hX51.trans hb
          replace hX150 := hX150.trans hb
          replace hX155 := hX155.trans hb
          replace bO36_0 := BoxAt.ext hb bO36_0
          replace bO36_1 := BoxAt.ext hb bO36_1
          replace bO52_0 := BoxAt.ext hb bO52_0
          replace bO52_1 := BoxAt.ext hb bO52_1
          replace bO52_2 := BoxAt.ext hb bO52_2
          replace bO137_0 := BoxAt.ext hb bO137_0
          replace bO137_1 := BoxAt.ext hb bO137_1
          replace bO137_2 := BoxAt.ext hb bO137_2
          replace bO137_3 := BoxAt.ext hb bO137_3
          replace bO137_4 := BoxAt.ext hb bO137_4
          replace bO137_5 := BoxAt.ext hb bO137_5
          replace bO137_6 := BoxAt.ext hb bO137_6
          replace bO137_7 := BoxAt.ext hb bO137_7
          replace bO137_8 := BoxAt.ext hb bO137_8
          replace bO137_9 := BoxAt.ext hb bO137_9
          replace bO137_10 := BoxAt.ext hb bO137_10
          replace bO137_11 := BoxAt.ext hb bO137_11
          replace bO137_12 := BoxAt.ext hb bO137_12
          replace bO137_13 := BoxAt.ext hb bO137_13
          replace bO137_14 := BoxAt.ext hb bO137_14
          replace bO137_15 := BoxAt.ext hb bO137_15
          replace bO137_16 := BoxAt.ext hb bO137_16
          replace bO137_17 := BoxAt.ext hb bO137_17
          replace bO156_0 := BoxAt.ext hb bO156_0
          replace bO156_1 := BoxAt.ext hb bO156_1
          replace bO156_2 := BoxAt.ext hb bO156_2
          replace bO156_3 := BoxAt.ext hb bO156_3
          replace bO156_4 := BoxAt.ext hb bO156_4
          replace bO156_5 := BoxAt.ext hb bO156_5
          replace bO156_6 := BoxAt.ext hb bO156_6
          replace bO156_7 := BoxAt.ext hb bO156_7
          replace bO156_8 := BoxAt.ext hb bO156_8
          replace bO164_0 := BoxAt.ext hb bO164_0
          replace bO164_1 := BoxAt.ext hb bO164_1
          replace bO164_2 := BoxAt.ext hb bO164_2
          replace bO164_3 := BoxAt.ext hb bO164_3
          have hs174 := hb.size
          clear hb
          have lt175 := bO172_0.lt
          refine pl_put rfl (by kernel_rfl) (by kernel_rfl) (sn_setK4 (O := O172) (j := 0) (v0 := .int .i64 ((Mem.freeV ov ((ov.sl.length : Int) - 1)).im : Int)) (v1 := .int .i64 ((Mem.freeV ov ((ov.sl.length : Int) - 1)).un : Int)) (v2 := .int .i64 ((Mem.freeV ov ((ov.sl.length : Int) - 1)).fr : Int)) (v3 := .int .i64 ((Mem.freeV ov ((ov.sl.length : Int) - 1)).to : Int)) (ex_store (p := .pointer (some ⟨O172, 0, none⟩)) (v := .agg #[.int .i64 ((Mem.freeV ov ((ov.sl.length : Int) - 1)).im : Int), .int .i64 ((Mem.freeV ov ((ov.sl.length : Int) - 1)).un : Int), .int .i64 ((Mem.freeV ov ((ov.sl.length : Int) - 1)).fr : Int), .int .i64 ((Mem.freeV ov ((ov.sl.length : Int) - 1)).to : Int)]) rfl (by kernel_rfl) (by kernel_rfl) (st26 bO172_0.1 bO172_0.2 bO172_1.1 bO172_1.2 bO172_2.1 bO172_2.2 bO172_3.1 bO172_3.2)) bO172_0 bO172_1 bO172_2 bO172_3 ?_)
          intro X176 ho hv0 hv1 hv2 hv3 hk
          replace hE := ho.ext hE (Nat.le_trans (Nat.le_trans hs7 (Nat.le_trans hs11 (Nat.le_trans hs15 (Nat.le_trans hs19 (Nat.le_trans hs23 (Nat.le_trans hs25 (Nat.le_trans hs26 (Nat.le_trans hs38 (Nat.le_trans hs41 (Nat.le_trans hs43 (Nat.le_trans hs46 (Nat.le_trans hs48 (Nat.le_trans hs50 (Nat.le_trans hs54 (Nat.le_trans hs56 (Nat.le_trans hn148 (Nat.le_trans hs152 (Nat.le_trans hs158 (Nat.le_trans hs161 (Nat.le_trans hs163 (Nat.le_trans hs166 (Nat.le_trans hs169 hs171)))))))))))))))))))))) (Nat.le_of_eq hzO172))
          replace hX21 := ho.ext hX21 (Nat.le_trans (Nat.le_trans hs23 (Nat.le_trans hs25 (Nat.le_trans hs26 (Nat.le_trans hs38 (Nat.le_trans hs41 (Nat.le_trans hs43 (Nat.le_trans hs46 (Nat.le_trans hs48 (Nat.le_trans hs50 (Nat.le_trans hs54 (Nat.le_trans hs56 (Nat.le_trans hn148 (Nat.le_trans hs152 (Nat.le_trans hs158 (Nat.le_trans hs161 (Nat.le_trans hs163 (Nat.le_trans hs166 (Nat.le_trans hs169 hs171)))))))))))))))))) (Nat.le_of_eq hzO172))
          replace hX34 := ho.ext hX34 (Nat.le_trans (Nat.le_trans hs38 (Nat.le_trans hs41 (Nat.le_trans hs43 (Nat.le_trans hs46 (Nat.le_trans hs48 (Nat.le_trans hs50 (Nat.le_trans hs54 (Nat.le_trans hs56 (Nat.le_trans hn148 (Nat.le_trans hs152 (Nat.le_trans hs158 (Nat.le_trans hs161 (Nat.le_trans hs163 (Nat.le_trans hs166 (Nat.le_trans hs169 hs171))))))))))))))) (Nat.le_of_eq hzO172))
          replace hX51 := ho.ext hX51 (Nat.le_trans (Nat.le_trans hs54 (Nat.le_trans hs56 (Nat.le_trans hn148 (Nat.le_trans hs152 (Nat.le_trans hs158 (Nat.le_trans hs161 (Nat.le_trans hs163 (Nat.le_trans hs166 (Nat.le_trans hs169 hs171))))))))) (Nat.le_of_eq hzO172))
          replace hX150 := ho.ext hX150 (Nat.le_trans (Nat.le_trans hs152 (Nat.le_trans hs158 (Nat.le_trans hs161 (Nat.le_trans hs163 (Nat.le_trans hs166 (Nat.le_trans hs169 hs171)))))) (Nat.le_of_eq hzO172))
          replace hX155 := ho.ext hX155 (Nat.le_trans (Nat.le_trans hs158 (Nat.le_trans hs161 (Nat.le_trans hs163 (Nat.le_trans hs166 (Nat.le_trans hs169 hs171))))) (Nat.le_of_eq hzO172))
          replace bO36_0 := ho.box (Nat.ne_of_gt (Nat.lt_of_lt_of_le lt39 (Nat.le_trans (Nat.le_trans hs41 (Nat.le_trans hs43 (Nat.le_trans hs46 (Nat.le_trans hs48 (Nat.le_trans hs50 (Nat.le_trans hs54 (Nat.le_trans hs56 (Nat.le_trans hn148 (Nat.le_trans hs152 (Nat.le_trans hs158 (Nat.le_trans hs161 (Nat.le_trans hs163 (Nat.le_trans hs166 (Nat.le_trans hs169 hs171)))))))))))))) (Nat.le_of_eq hzO172)))) bO36_0
          replace bO36_1 := ho.box (Nat.ne_of_gt (Nat.lt_of_lt_of_le lt39 (Nat.le_trans (Nat.le_trans hs41 (Nat.le_trans hs43 (Nat.le_trans hs46 (Nat.le_trans hs48 (Nat.le_trans hs50 (Nat.le_trans hs54 (Nat.le_trans hs56 (Nat.le_trans hn148 (Nat.le_trans hs152 (Nat.le_trans hs158 (Nat.le_trans hs161 (Nat.le_trans hs163 (Nat.le_trans hs166 (Nat.le_trans hs169 hs171)))))))))))))) (Nat.le_of_eq hzO172)))) bO36_1
          replace bO52_0 := ho.box (Nat.ne_of_gt (Nat.lt_of_lt_of_le lt55 (Nat.le_trans (Nat.le_trans hs56 (Nat.le_trans hn148 (Nat.le_trans hs152 (Nat.le_trans hs158 (Nat.le_trans hs161 (Nat.le_trans hs163 (Nat.le_trans hs166 (Nat.le_trans hs169 hs171)))))))) (Nat.le_of_eq hzO172)))) bO52_0
          replace bO52_1 := ho.box (Nat.ne_of_gt (Nat.lt_of_lt_of_le lt55 (Nat.le_trans (Nat.le_trans hs56 (Nat.le_trans hn148 (Nat.le_trans hs152 (Nat.le_trans hs158 (Nat.le_trans hs161 (Nat.le_trans hs163 (Nat.le_trans hs166 (Nat.le_trans hs169 hs171)))))))) (Nat.le_of_eq hzO172)))) bO52_1
          replace bO52_2 := ho.box (Nat.ne_of_gt (Nat.lt_of_lt_of_le lt55 (Nat.le_trans (Nat.le_trans hs56 (Nat.le_trans hn148 (Nat.le_trans hs152 (Nat.le_trans hs158 (Nat.le_trans hs161 (Nat.le_trans hs163 (Nat.le_trans hs166 (Nat.le_trans hs169 hs171)))))))) (Nat.le_of_eq hzO172)))) bO52_2
          replace bO137_0 := ho.box (Nat.ne_of_gt (Nat.lt_of_lt_of_le lt151 (Nat.le_trans (Nat.le_trans hs152 (Nat.le_trans hs158 (Nat.le_trans hs161 (Nat.le_trans hs163 (Nat.le_trans hs166 (Nat.le_trans hs169 hs171)))))) (Nat.le_of_eq hzO172)))) bO137_0
          replace bO137_1 := ho.box (Nat.ne_of_gt (Nat.lt_of_lt_of_le lt151 (Nat.le_trans (Nat.le_trans hs152 (Nat.le_trans hs158 (Nat.le_trans hs161 (Nat.le_trans hs163 (Nat.le_trans hs166 (Nat.le_trans hs169 hs171)))))) (Nat.le_of_eq hzO172)))) bO137_1
          replace bO137_2 := ho.box (Nat.ne_of_gt (Nat.lt_of_lt_of_le lt151 (Nat.le_trans (Nat.le_trans hs152 (Nat.le_trans hs158 (Nat.le_trans hs161 (Nat.le_trans hs163 (Nat.le_trans hs166 (Nat.le_trans hs169 hs171)))))) (Nat.le_of_eq hzO172)))) bO137_2
          replace bO137_3 := ho.box (Nat.ne_of_gt (Nat.lt_of_lt_of_le lt151 (Nat.le_trans (Nat.le_trans hs152 (Nat.le_trans hs158 (Nat.le_trans hs161 (Nat.le_trans hs163 (Nat.le_trans hs166 (Nat.le_trans hs169 hs171)))))) (Nat.le_of_eq hzO172)))) bO137_3
          replace bO137_4 := ho.box (Nat.ne_of_gt (Nat.lt_of_lt_of_le lt151 (Nat.le_trans (Nat.le_trans hs152 (Nat.le_trans hs158 (Nat.le_trans hs161 (Nat.le_trans hs163 (Nat.le_trans hs166 (Nat.le_trans hs169 hs171)))))) (Nat.le_of_eq hzO172)))) bO137_4
          replace bO137_5 := ho.box (Nat.ne_of_gt (Nat.lt_of_lt_of_le lt151 (Nat.le_trans (Nat.le_trans hs152 (Nat.le_trans hs158 (Nat.le_trans hs161 (Nat.le_trans hs163 (Nat.le_trans hs166 (Nat.le_trans hs169 hs171)))))) (Nat.le_of_eq hzO172)))) bO137_5
          replace bO137_6 := ho.box (Nat.ne_of_gt (Nat.lt_of_lt_of_le lt151 (Nat.le_trans (Nat.le_trans hs152 (Nat.le_trans hs158 (Nat.le_trans hs161 (Nat.le_trans hs163 (Nat.le_trans hs166 (Nat.le_trans hs169 hs171)))))) (Nat.le_of_eq hzO172)))) bO137_6
          replace bO137_7 := ho.box (Nat.ne_of_gt (Nat.lt_of_lt_of_le lt151 (Nat.le_trans (Nat.le_trans hs152 (Nat.le_trans hs158 (Nat.le_trans hs161 (Nat.le_trans hs163 (Nat.le_trans hs166 (Nat.le_trans hs169 hs171)))))) (Nat.le_of_eq hzO172)))) bO137_7
          replace bO137_8 := ho.box (Nat.ne_of_gt (Nat.lt_of_lt_of_le lt151 (Nat.le_trans (Nat.le_trans hs152 (Nat.le_trans hs158 (Nat.le_trans hs161 (Nat.le_trans hs163 (Nat.le_trans hs166 (Nat.le_trans hs169 hs171)))))) (Nat.le_of_eq hzO172)))) bO137_8
          replace bO137_9 := ho.box (Nat.ne_of_gt (Nat.lt_of_lt_of_le lt151 (Nat.le_trans (Nat.le_trans hs152 (Nat.le_trans hs158 (Nat.le_trans hs161 (Nat.le_trans hs163 (Nat.le_trans hs166 (Nat.le_trans hs169 hs171)))))) (Nat.le_of_eq hzO172)))) bO137_9
          replace bO137_10 := ho.box (Nat.ne_of_gt (Nat.lt_of_lt_of_le lt151 (Nat.le_trans (Nat.le_trans hs152 (Nat.le_trans hs158 (Nat.le_trans hs161 (Nat.le_trans hs163 (Nat.le_trans hs166 (Nat.le_trans hs169 hs171)))))) (Nat.le_of_eq hzO172)))) bO137_10
          replace bO137_11 := ho.box (Nat.ne_of_gt (Nat.lt_of_lt_of_le lt151 (Nat.le_trans (Nat.le_trans hs152 (Nat.le_trans hs158 (Nat.le_trans hs161 (Nat.le_trans hs163 (Nat.le_trans hs166 (Nat.le_trans hs169 hs171)))))) (Nat.le_of_eq hzO172)))) bO137_11
          replace bO137_12 := ho.box (Nat.ne_of_gt (Nat.lt_of_lt_of_le lt151 (Nat.le_trans (Nat.le_trans hs152 (Nat.le_trans hs158 (Nat.le_trans hs161 (Nat.le_trans hs163 (Nat.le_trans hs166 (Nat.le_trans hs169 hs171)))))) (Nat.le_of_eq hzO172)))) bO137_12
          replace bO137_13 := ho.box (Nat.ne_of_gt (Nat.lt_of_lt_of_le lt151 (Nat.le_trans (Nat.le_trans hs152 (Nat.le_trans hs158 (Nat.le_trans hs161 (Nat.le_trans hs163 (Nat.le_trans hs166 (Nat.le_trans hs169 hs171)))))) (Nat.le_of_eq hzO172)))) bO137_13
          replace bO137_14 := ho.box (Nat.ne_of_gt (Nat.lt_of_lt_of_le lt151 (Nat.le_trans (Nat.le_trans hs152 (Nat.le_trans hs158 (Nat.le_trans hs161 (Nat.le_trans hs163 (Nat.le_trans hs166 (Nat.le_trans hs169 hs171)))))) (Nat.le_of_eq hzO172)))) bO137_14
          replace bO137_15 := ho.box (Nat.ne_of_gt (Nat.lt_of_lt_of_le lt151 (Nat.le_trans (Nat.le_trans hs152 (Nat.le_trans hs158 (Nat.le_trans hs161 (Nat.le_trans hs163 (Nat.le_trans hs166 (Nat.le_trans hs169 hs171)))))) (Nat.le_of_eq hzO172)))) bO137_15
          replace bO137_16 := ho.box (Nat.ne_of_gt (Nat.lt_of_lt_of_le lt151 (Nat.le_trans (Nat.le_trans hs152 (Nat.le_trans hs158 (Nat.le_trans hs161 (Nat.le_trans hs163 (Nat.le_trans hs166 (Nat.le_trans hs169 hs171)))))) (Nat.le_of_eq hzO172)))) bO137_16
          replace bO137_17 := ho.box (Nat.ne_of_gt (Nat.lt_of_lt_of_le lt151 (Nat.le_trans (Nat.le_trans hs152 (Nat.le_trans hs158 (Nat.le_trans hs161 (Nat.le_trans hs163 (Nat.le_trans hs166 (Nat.le_trans hs169 hs171)))))) (Nat.le_of_eq hzO172)))) bO137_17
          replace bO156_0 := ho.box (Nat.ne_of_gt (Nat.lt_of_lt_of_le lt159 (Nat.le_trans (Nat.le_trans hs161 (Nat.le_trans hs163 (Nat.le_trans hs166 (Nat.le_trans hs169 hs171)))) (Nat.le_of_eq hzO172)))) bO156_0
          replace bO156_1 := ho.box (Nat.ne_of_gt (Nat.lt_of_lt_of_le lt159 (Nat.le_trans (Nat.le_trans hs161 (Nat.le_trans hs163 (Nat.le_trans hs166 (Nat.le_trans hs169 hs171)))) (Nat.le_of_eq hzO172)))) bO156_1
          replace bO156_2 := ho.box (Nat.ne_of_gt (Nat.lt_of_lt_of_le lt159 (Nat.le_trans (Nat.le_trans hs161 (Nat.le_trans hs163 (Nat.le_trans hs166 (Nat.le_trans hs169 hs171)))) (Nat.le_of_eq hzO172)))) bO156_2
          replace bO156_3 := ho.box (Nat.ne_of_gt (Nat.lt_of_lt_of_le lt159 (Nat.le_trans (Nat.le_trans hs161 (Nat.le_trans hs163 (Nat.le_trans hs166 (Nat.le_trans hs169 hs171)))) (Nat.le_of_eq hzO172)))) bO156_3
          replace bO156_4 := ho.box (Nat.ne_of_gt (Nat.lt_of_lt_of_le lt159 (Nat.le_trans (Nat.le_trans hs161 (Nat.le_trans hs163 (Nat.le_trans hs166 (Nat.le_trans hs169 hs171)))) (Nat.le_of_eq hzO172)))) bO156_4
          replace bO156_5 := ho.box (Nat.ne_of_gt (Nat.lt_of_lt_of_le lt159 (Nat.le_trans (Nat.le_trans hs161 (Nat.le_trans hs163 (Nat.le_trans hs166 (Nat.le_trans hs169 hs171)))) (Nat.le_of_eq hzO172)))) bO156_5
          replace bO156_6 := ho.box (Nat.ne_of_gt (Nat.lt_of_lt_of_le lt159 (Nat.le_trans (Nat.le_trans hs161 (Nat.le_trans hs163 (Nat.le_trans hs166 (Nat.le_trans hs169 hs171)))) (Nat.le_of_eq hzO172)))) bO156_6
          replace bO156_7 := ho.box (Nat.ne_of_gt (Nat.lt_of_lt_of_le lt159 (Nat.le_trans (Nat.le_trans hs161 (Nat.le_trans hs163 (Nat.le_trans hs166 (Nat.le_trans hs169 hs171)))) (Nat.le_of_eq hzO172)))) bO156_7
          replace bO156_8 := ho.box (Nat.ne_of_gt (Nat.lt_of_lt_of_le lt159 (Nat.le_trans (Nat.le_trans hs161 (Nat.le_trans hs163 (Nat.le_trans hs166 (Nat.le_trans hs169 hs171)))) (Nat.le_of_eq hzO172)))) bO156_8
          replace bO164_0 := ho.box (Nat.ne_of_gt (Nat.lt_of_lt_of_le lt167 (Nat.le_trans (Nat.le_trans hs169 hs171) (Nat.le_of_eq hzO172)))) bO164_0
          replace bO164_1 := ho.box (Nat.ne_of_gt (Nat.lt_of_lt_of_le lt167 (Nat.le_trans (Nat.le_trans hs169 hs171) (Nat.le_of_eq hzO172)))) bO164_1
          replace bO164_2 := ho.box (Nat.ne_of_gt (Nat.lt_of_lt_of_le lt167 (Nat.le_trans (Nat.le_trans hs169 hs171) (Nat.le_of_eq hzO172)))) bO164_2
          replace bO164_3 := ho.box (Nat.ne_of_gt (Nat.lt_of_lt_of_le lt167 (Nat.le_trans (Nat.le_trans hs169 hs171) (Nat.le_of_eq hzO172)))) bO164_3
          have hs177 : X173.heap.size ≤ X176.heap.size := Nat.le_of_eq ho.size.symm
          clear ho hk bO172_0 bO172_1 bO172_2 bO172_3
          have bO172_0 := hv0; clear hv0
          have bO172_1 := hv1; clear hv1
          have bO172_2 := hv2; clear hv2
          have bO172_3 := hv3; clear hv3
          refine pT (.int .i64 (Mem.freeE ov ((ov.sl.length : Int) - 1) : Int)) ?_
          refine pl_nil ?_
          refine qw_then ?_
          refine cw_clean [5, 19, 47, 48, 49, 50, 51, 250, 251, 252] (ws' := [(5, .int .i64 (i5 : Int)), (19, .bool true), (47, .pointer (some ⟨O156, 0, none⟩)), (48, .pointer (some ⟨O164, 0, none⟩)), (49, .int .i64 (Mem.freeE ov ((ov.sl.length : Int) - 1) : Int)), (50, .pointer (some ⟨O172, 0, none⟩)), (51, .int .i64 (Mem.freeE ov ((ov.sl.length : Int) - 1) : Int)), (250, .slice (some ⟨O137, 0, none⟩) 2 2), (251, .int .i64 2), (252, .int .i64 (((v : Nat) : Int) : Int))]) (by kernel_rfl) (fun L => ?_)
          refine cw_seq ?_
          refine cw_seq ?_
          refine cw_plain ?_
          refine pl_take (.agg #[.int .i64 ((Mem.freeV ov ((ov.sl.length : Int) - 1)).im : Int), .int .i64 ((Mem.freeV ov ((ov.sl.length : Int) - 1)).un : Int), .int .i64 ((Mem.freeV ov ((ov.sl.length : Int) - 1)).fr : Int), .int .i64 ((Mem.freeV ov ((ov.sl.length : Int) - 1)).to : Int)]) rfl (by kernel_rfl) (by kernel_rfl) (by kernel_rfl) (ex_load rfl (by kernel_rfl) (ld26 (bO164_0.1) (bO164_1.1) (bO164_2.1) (bO164_3.1))) ?_
          refine pl_take (.agg #[.int .i64 ((Mem.freeV ov ((ov.sl.length : Int) - 1)).im : Int), .int .i64 ((Mem.freeV ov ((ov.sl.length : Int) - 1)).un : Int), .int .i64 ((Mem.freeV ov ((ov.sl.length : Int) - 1)).fr : Int), .int .i64 ((Mem.freeV ov ((ov.sl.length : Int) - 1)).to : Int)]) rfl (by kernel_rfl) (by kernel_rfl) (by kernel_rfl) (ex_load rfl (by kernel_rfl) (ld26 (bO172_0.1) (bO172_1.1) (bO172_2.1) (bO172_3.1))) ?_
          refine pl_take (.bool false) rfl (by kernel_rfl) (by kernel_rfl) (by kernel_rfl) (ex_s26 (xs := #[.int .i64 ((Mem.freeV ov ((ov.sl.length : Int) - 1)).im : Int), .int .i64 ((Mem.freeV ov ((ov.sl.length : Int) - 1)).un : Int), .int .i64 ((Mem.freeV ov ((ov.sl.length : Int) - 1)).fr : Int), .int .i64 ((Mem.freeV ov ((ov.sl.length : Int) - 1)).to : Int)]) (ys := #[.int .i64 ((Mem.freeV ov ((ov.sl.length : Int) - 1)).im : Int), .int .i64 ((Mem.freeV ov ((ov.sl.length : Int) - 1)).un : Int), .int .i64 ((Mem.freeV ov ((ov.sl.length : Int) - 1)).fr : Int), .int .i64 ((Mem.freeV ov ((ov.sl.length : Int) - 1)).to : Int)]) (v := .bool false) rfl (by kernel_rfl) (by kernel_rfl) (neq26.trans (congrArg (fun b => Result.ok (Value.bool b) _) (by simp)))) ?_
          refine pT (.bool false) ?_
          refine pT (.int .i64 (Mem.freeE ov ((ov.sl.length : Int) - 1) : Int)) ?_
          refine pT (.int .i64 (Mem.freeE ov ((ov.sl.length : Int) - 1) : Int)) ?_
          refine pl_take (.bool false) rfl (by kernel_rfl) (by kernel_rfl) (by kernel_rfl) (ev_nne (show _ = Result.ok (Next.value (Value.bool ((Mem.freeE ov ((ov.sl.length : Int) - 1) : Int) != (Mem.freeE ov ((ov.sl.length : Int) - 1) : Int)))) _ from by kernel_rfl) (rfl)) ?_
          refine pT (.bool false) ?_
          refine pl_nil ?_
          refine qw_then ?_
          refine cw_clean [5, 19, 47, 48, 50, 250, 251, 252, 273] (ws' := [(5, .int .i64 (i5 : Int)), (19, .bool true), (47, .pointer (some ⟨O156, 0, none⟩)), (48, .pointer (some ⟨O164, 0, none⟩)), (50, .pointer (some ⟨O172, 0, none⟩)), (250, .slice (some ⟨O137, 0, none⟩) 2 2), (251, .int .i64 2), (252, .int .i64 (((v : Nat) : Int) : Int)), (273, .bool false)]) (by kernel_rfl) (fun L => ?_)
          refine cw_f (by kernel_rfl) ?_
          refine cw_skip ?_
          refine qw_then ?_
          refine cw_seq ?_
          refine cw_plain ?_
          refine pT (.int .i64 (i5 : Int)) ?_
          refine pT (.int .i64 (i5 : Int)) ?_
          refine pl_step rfl (by kernel_rfl) (by kernel_rfl) (by kernel_rfl) (sn_call (f := 12) (args := #[.int .i64 (i5 : Int), .int .i64 7]) (by kernel_rfl) ((pickv_c i5 7 _ hi5 (by omega) (by omega)).mono ?_))
          rintro e w' ⟨pk178, rfl, hqpk178, rfl⟩
          refine ⟨_, rfl, ?_⟩
          refine pl_step rfl (by kernel_rfl) (by kernel_rfl) (by kernel_rfl) (sn_newS (us := #[.int .i64 (i5 : Int), .int .i64 (pk178 : Int)]) (t := 3) (k := 2) (c := 2) (by kernel_rfl) ?_)
          intro O179 X180 hO hOs hb hbx
          have hzO179 := hO; have hyO179 := hOs; clear hO hOs
          have bO179_0 : BoxAt X180 O179 0 (.int .i64 (i5 : Int)) := hbx 0 _ rfl
          have bO179_1 : BoxAt X180 O179 1 (.int .i64 (pk178 : Int)) := hbx 1 _ rfl
          clear hbx
          replace hE := hE.trans hb
          replace hX21 := hX21.trans hb
          replace hX34 := hX34.trans hb
          replace hX51 := hX51.trans hb
          replace hX150 := hX150.trans hb
          replace hX155 := hX155.trans hb
          replace bO36_0 := BoxAt.ext hb bO36_0
          replace bO36_1 := BoxAt.ext hb bO36_1
          replace bO52_0 := BoxAt.ext hb bO52_0
          replace bO52_1 := BoxAt.ext hb bO52_1
          replace bO52_2 := BoxAt.ext hb bO52_2
          replace bO137_0 := BoxAt.ext hb bO137_0
          replace bO137_1 := BoxAt.ext hb bO137_1
          replace bO137_2 := BoxAt.ext hb bO137_2
          replace bO137_3 := BoxAt.ext hb bO137_3
          replace bO137_4 := BoxAt.ext hb bO137_4
          replace bO137_5 := BoxAt.ext hb bO137_5
          replace bO137_6 := BoxAt.ext hb bO137_6
          replace bO137_7 := BoxAt.ext hb bO137_7
          replace bO137_8 := BoxAt.ext hb bO137_8
          replace bO137_9 := BoxAt.ext hb bO137_9
          replace bO137_10 := BoxAt.ext hb bO137_10
          replace bO137_11 := BoxAt.ext hb bO137_11
          replace bO137_12 := BoxAt.ext hb bO137_12
          replace bO137_13 := BoxAt.ext hb bO137_13
          replace bO137_14 := BoxAt.ext hb bO137_14
          replace bO137_15 := BoxAt.ext hb bO137_15
          replace bO137_16 := BoxAt.ext hb bO137_16
          replace bO137_17 := BoxAt.ext hb bO137_17
          replace bO156_0 := BoxAt.ext hb bO156_0
          replace bO156_1 := BoxAt.ext hb bO156_1
          replace bO156_2 := BoxAt.ext hb bO156_2
          replace bO156_3 := BoxAt.ext hb bO156_3
          replace bO156_4 := BoxAt.ext hb bO156_4
          replace bO156_5 := BoxAt.ext hb bO156_5
          replace bO156_6 := BoxAt.ext hb bO156_6
          replace bO156_7 := BoxAt.ext hb bO156_7
          replace bO156_8 := BoxAt.ext hb bO156_8
          replace bO164_0 := BoxAt.ext hb bO164_0
          replace bO164_1 := BoxAt.ext hb bO164_1
          replace bO164_2 := BoxAt.ext hb bO164_2
          replace bO164_3 := BoxAt.ext hb bO164_3
          replace bO172_0 := BoxAt.ext hb bO172_0
          replace bO172_1 := BoxAt.ext hb bO172_1
          replace bO172_2 := BoxAt.ext hb bO172_2
          replace bO172_3 := BoxAt.ext hb bO172_3
          have hs181 := hb.size
          clear hb
          have lt182 := bO179_0.lt
          refine pT (.int .i64 2) ?_
          refine pT (.int .i64 0) ?_
          refine pl_nil ?_
          refine qw_then ?_
          refine cw_clean [5, 19, 47, 48, 50, 250, 251, 252, 277, 278, 279] (ws' := [(5, .int .i64 (i5 : Int)), (19, .bool true), (47, .pointer (some ⟨O156, 0, none⟩)), (48, .pointer (some ⟨O164, 0, none⟩)), (50, .pointer (some ⟨O172, 0, none⟩)), (250, .slice (some ⟨O137, 0, none⟩) 2 2), (251, .int .i64 2), (252, .int .i64 (((v : Nat) : Int) : Int)), (277, .slice (some ⟨O179, 0, none⟩) 2 2), (278, .int .i64 2), (279, .int .i64 0)]) (by kernel_rfl) (fun L => ?_)
          refine cw_block ?_
          refine cw_loop [5, 19, 47, 48, 50, 250, 251, 252, 277, 278, 279] (fun ws' wr m => ∃ u : Nat, ∃ r0 : Int, ∃ r1 : Int, ∃ r2 : Int, ∃ r3 : Int, ∃ r4 : Int, ∃ r5 : Int, ∃ r6 : Int, ∃ r7 : Int, ws' = [(5, .int .i64 (i5 : Int)), (19, .bool true), (47, .pointer (some ⟨O156, 0, none⟩)), (48, .pointer (some ⟨O164, 0, none⟩)), (50, .pointer (some ⟨O172, 0, none⟩)), (250, .slice (some ⟨O137, 0, none⟩) 2 2), (251, .int .i64 2), (252, .int .i64 (((v : Nat) : Int) : Int)), (277, .slice (some ⟨O179, 0, none⟩) 2 2), (278, .int .i64 2), (279, .int .i64 (((u : Nat) : Int) : Int))] ∧ m = 2 - u ∧ X180.heap.size ≤ wr.heap.size ∧ Ext w wr ∧ Ext X18 wr ∧ Ext w33 wr ∧ Ext w49 wr ∧ Ext Y147 wr ∧ Ext w153 wr ∧ BoxAt wr O36 0 (.int .i64 (pk35 : Int)) ∧ BoxAt wr O36 1 (.int .i64 ((pk35 + 1) + pk44 : Int)) ∧ BoxAt wr O52 0 (.slice a3 k3 c3) ∧ BoxAt wr O52 1 (.slice a1 k1 c1) ∧ BoxAt wr O52 2 (.slice a2 (min n2 25) c2) ∧ BoxAt wr O137 0 (.int .i64 (xO.id : Int)) ∧ BoxAt wr O137 1 (.int .i64 (xO.od : Int)) ∧ BoxAt wr O137 2 (.int .i64 (xO.cl : Int)) ∧ BoxAt wr O137 3 (.int .i64 (xO.sa : Int)) ∧ BoxAt wr O137 4 (.int .i64 (xO.fr : Int)) ∧ BoxAt wr O137 5 (.int .i64 (xO.to : Int)) ∧ BoxAt wr O137 6 (.int .i64 (xO.lk : Int)) ∧ BoxAt wr O137 7 (.int .i64 (xO.sz : Int)) ∧ BoxAt wr O137 8 (.slice aS nS kS) ∧ BoxAt wr O137 9 (.int .i64 (op.id : Int)) ∧ BoxAt wr O137 10 (.int .i64 (op.od : Int)) ∧ BoxAt wr O137 11 (.int .i64 (op.cl : Int)) ∧ BoxAt wr O137 12 (.int .i64 (op.sa : Int)) ∧ BoxAt wr O137 13 (.int .i64 (op.fr : Int)) ∧ BoxAt wr O137 14 (.int .i64 (op.to : Int)) ∧ BoxAt wr O137 15 (.int .i64 (op.lk : Int)) ∧ BoxAt wr O137 16 (.int .i64 (op.sz : Int)) ∧ BoxAt wr O137 17 (.slice a4 (min n4 7) c4) ∧ BoxAt wr O156 0 (.int .i64 (ov.id : Int)) ∧ BoxAt wr O156 1 (.int .i64 (ov.od : Int)) ∧ BoxAt wr O156 2 (.int .i64 (ov.cl : Int)) ∧ BoxAt wr O156 3 (.int .i64 (ov.sa : Int)) ∧ BoxAt wr O156 4 (.int .i64 (ov.fr : Int)) ∧ BoxAt wr O156 5 (.int .i64 (ov.to : Int)) ∧ BoxAt wr O156 6 (.int .i64 (ov.lk : Int)) ∧ BoxAt wr O156 7 (.int .i64 (ov.sz : Int)) ∧ BoxAt wr O156 8 (.slice aV nV kV) ∧ BoxAt wr O179 0 (.int .i64 (i5 : Int)) ∧ BoxAt wr O179 1 (.int .i64 (pk178 : Int)) ∧ BoxAt wr O164 0 (.int .i64 (r0 : Int)) ∧ BoxAt wr O164 1 (.int .i64 (r1 : Int)) ∧ BoxAt wr O164 2 (.int .i64 (r2 : Int)) ∧ BoxAt wr O164 3 (.int .i64 (r3 : Int)) ∧ BoxAt wr O172 0 (.int .i64 (r4 : Int)) ∧ BoxAt wr O172 1 (.int .i64 (r5 : Int)) ∧ BoxAt wr O172 2 (.int .i64 (r6 : Int)) ∧ BoxAt wr O172 3 (.int .i64 (r7 : Int)) ∧ u ≤ 2) (ws0 := [(5, .int .i64 (i5 : Int)), (19, .bool true), (47, .pointer (some ⟨O156, 0, none⟩)), (48, .pointer (some ⟨O164, 0, none⟩)), (50, .pointer (some ⟨O172, 0, none⟩)), (250, .slice (some ⟨O137, 0, none⟩) 2 2), (251, .int .i64 2), (252, .int .i64 (((v : Nat) : Int) : Int)), (277, .slice (some ⟨O179, 0, none⟩) 2 2), (278, .int .i64 2), (279, .int .i64 0)]) (by kernel_rfl) _ ⟨0, (Mem.freeV ov ((ov.sl.length : Int) - 1)).im, (Mem.freeV ov ((ov.sl.length : Int) - 1)).un, (Mem.freeV ov ((ov.sl.length : Int) - 1)).fr, (Mem.freeV ov ((ov.sl.length : Int) - 1)).to, (Mem.freeV ov ((ov.sl.length : Int) - 1)).im, (Mem.freeV ov ((ov.sl.length : Int) - 1)).un, (Mem.freeV ov ((ov.sl.length : Int) - 1)).fr, (Mem.freeV ov ((ov.sl.length : Int) - 1)).to, rfl, rfl, Nat.le_refl _, hE, hX21, hX34, hX51, hX150, hX155, bO36_0, bO36_1, bO52_0, bO52_1, bO52_2, bO137_0, bO137_1, bO137_2, bO137_3, bO137_4, bO137_5, bO137_6, bO137_7, bO137_8, bO137_9, bO137_10, bO137_11, bO137_12, bO137_13, bO137_14, bO137_15, bO137_16, bO137_17, bO156_0, bO156_1, bO156_2, bO156_3, bO156_4, bO156_5, bO156_6, bO156_7, bO156_8, bO179_0, bO179_1, bO164_0, bO164_1, bO164_2, bO164_3, bO172_0, bO172_1, bO172_2, bO172_3, Nat.zero_le _⟩ ?_
          clear bO36_0 bO36_1 bO52_0 bO52_1 bO52_2 bO137_0 bO137_1 bO137_2 bO137_3 bO137_4 bO137_5 bO137_6 bO137_7 bO137_8 bO137_9 bO137_10 bO137_11 bO137_12 bO137_13 bO137_14 bO137_15 bO137_16 bO137_17 bO156_0 bO156_1 bO156_2 bO156_3 bO156_4 bO156_5 bO156_6 bO156_7 bO156_8 bO164_0 bO164_1 bO164_2 bO164_3 bO172_0 bO172_1 bO172_2 bO172_3 bO179_0 bO179_1 hE hX21 hX34 hX51 hX150 hX155
          rintro m185 L ws w184 ⟨u, r0, r1, r2, r3, r4, r5, r6, r7, rfl, rfl, hs183, hE, hX21, hX34, hX51, hX150, hX155, bO36_0, bO36_1, bO52_0, bO52_1, bO52_2, bO137_0, bO137_1, bO137_2, bO137_3, bO137_4, bO137_5, bO137_6, bO137_7, bO137_8, bO137_9, bO137_10, bO137_11, bO137_12, bO137_13, bO137_14, bO137_15, bO137_16, bO137_17, bO156_0, bO156_1, bO156_2, bO156_3, bO156_4, bO156_5, bO156_6, bO156_7, bO156_8, bO179_0, bO179_1, bx0, bx1, bx2, bx3, bx4, bx5, bx6, bx7, hu9⟩
          by_cases hlt : u < 2
          ·
            obtain ⟨ku, hku⟩ := sel2I hlt (bO179_0.1) (bO179_1.1)
            have hX186 : Ext w184 w184 := Ext.refl _
            refine cw_seq ?_
            refine cw_plain ?_
            refine pl_take (.bool true) rfl (by kernel_rfl) (by kernel_rfl) (by kernel_rfl) (ev_dec (show _ = Result.ok (Next.value (Value.bool (decide ((((u : Nat) : Int) : Int) < (2 : Int))))) _ from by kernel_rfl) (by omega)) ?_
            refine pl_nil ?_
            refine qw_then ?_
            refine cw_seq ?_
            refine cw_t (by kernel_rfl) ?_
            refine cw_skip ?_
            refine qw_then ?_
            refine cw_seq ?_
            refine cw_block ?_
            refine cw_seq ?_
            refine cw_plain ?_
            refine pl_take (.pointer (some ⟨O179, u, none⟩)) rfl (by kernel_rfl) (by kernel_rfl) (by kernel_rfl) (ex_index (p := .slice (some ⟨O179, 0, none⟩) 2 2) (i := .int .i64 ((u : Nat) : Int)) rfl (by kernel_rfl) (by kernel_rfl) (ix56z (k := u) (by omega))) ?_
            refine pl_take (.int .i64 (ku : Int)) rfl (by kernel_rfl) (by kernel_rfl) (by kernel_rfl) (ex_load rfl (by kernel_rfl) (ld3 (hku))) ?_
            refine pT (.int .i64 (ku : Int)) ?_
            refine pl_nil ?_
            refine qw_then ?_
            refine cw_clean [5, 19, 47, 48, 50, 53, 250, 251, 252, 277, 278, 279] (ws' := [(5, .int .i64 (i5 : Int)), (19, .bool true), (47, .pointer (some ⟨O156, 0, none⟩)), (48, .pointer (some ⟨O164, 0, none⟩)), (50, .pointer (some ⟨O172, 0, none⟩)), (53, .int .i64 (ku : Int)), (250, .slice (some ⟨O137, 0, none⟩) 2 2), (251, .int .i64 2), (252, .int .i64 (((v : Nat) : Int) : Int)), (277, .slice (some ⟨O179, 0, none⟩) 2 2), (278, .int .i64 2), (279, .int .i64 (((u : Nat) : Int) : Int))]) (by kernel_rfl) (fun L => ?_)
            refine cw_seq ?_
            refine cw_plain ?_
            refine pl_take (.agg #[.int .i64 (ov.id : Int), .int .i64 (ov.od : Int), .int .i64 (ov.cl : Int), .int .i64 (ov.sa : Int), .int .i64 (ov.fr : Int), .int .i64 (ov.to : Int), .int .i64 (ov.lk : Int), .int .i64 (ov.sz : Int), .slice aV nV kV]) rfl (by kernel_rfl) (by kernel_rfl) (by kernel_rfl) (ex_load rfl (by kernel_rfl) (ld31 (bO156_0.1) (bO156_1.1) (bO156_2.1) (bO156_3.1) (bO156_4.1) (bO156_5.1) (bO156_6.1) (bO156_7.1) (bO156_8.1))) ?_
            refine pT (.int .i64 (ku : Int)) ?_
            refine pl_step rfl (by kernel_rfl) (by kernel_rfl) (by kernel_rfl) (sn_call (f := 30) (args := #[.agg #[.int .i64 (ov.id : Int), .int .i64 (ov.od : Int), .int .i64 (ov.cl : Int), .int .i64 (ov.sa : Int), .int .i64 (ov.fr : Int), .int .i64 (ov.to : Int), .int .i64 (ov.lk : Int), .int .i64 (ov.sz : Int), .slice aV nV kV], .int .i64 (ku : Int)]) (by kernel_rfl) ((Freed_c (o := ov) ku _ _ hSV hX155).mono ?_))
            rintro e w187 ⟨rfl, hb⟩
            replace hE := hE.trans hb
            replace hX21 := hX21.trans hb
            replace hX34 := hX34.trans hb
            replace hX51 := hX51.trans hb
            replace hX150 := hX150.trans hb
            replace hX155 := hX155.trans hb
            replace hX186 := hX186.trans hb
            replace bO36_0 := BoxAt.ext hb bO36_0
            replace bO36_1 := BoxAt.ext hb bO36_1
            replace bO52_0 := BoxAt.ext hb bO52_0
            replace bO52_1 := BoxAt.ext hb bO52_1
            replace bO52_2 := BoxAt.ext hb bO52_2
            replace bO137_0 := BoxAt.ext hb bO137_0
            replace bO137_1 := BoxAt.ext hb bO137_1
            replace bO137_2 := BoxAt.ext hb bO137_2
            replace bO137_3 := BoxAt.ext hb bO137_3
            replace bO137_4 := BoxAt.ext hb bO137_4
            replace bO137_5 := BoxAt.ext hb bO137_5
            replace bO137_6 := BoxAt.ext hb bO137_6
            replace bO137_7 := BoxAt.ext hb bO137_7
            replace bO137_8 := BoxAt.ext hb bO137_8
            replace bO137_9 := BoxAt.ext hb bO137_9
            replace bO137_10 := BoxAt.ext hb bO137_10
            replace bO137_11 := BoxAt.ext hb bO137_11
            replace bO137_12 := BoxAt.ext hb bO137_12
            replace bO137_13 := BoxAt.ext hb bO137_13
            replace bO137_14 := BoxAt.ext hb bO137_14
            replace bO137_15 := BoxAt.ext hb bO137_15
            replace bO137_16 := BoxAt.ext hb bO137_16
            replace bO137_17 := BoxAt.ext hb bO137_17
            replace bO156_0 := BoxAt.ext hb bO156_0
            replace bO156_1 := BoxAt.ext hb bO156_1
            replace bO156_2 := BoxAt.ext hb bO156_2
            replace bO156_3 := BoxAt.ext hb bO156_3
            replace bO156_4 := BoxAt.ext hb bO156_4
            replace bO156_5 := BoxAt.ext hb bO156_5
            replace bO156_6 := BoxAt.ext hb bO156_6
            replace bO156_7 := BoxAt.ext hb bO156_7
            replace bO156_8 := BoxAt.ext hb bO156_8
            replace bO179_0 := BoxAt.ext hb bO179_0
            replace bO179_1 := BoxAt.ext hb bO179_1
            replace bx0 := BoxAt.ext hb bx0
            replace bx1 := BoxAt.ext hb bx1
            replace bx2 := BoxAt.ext hb bx2
            replace bx3 := BoxAt.ext hb bx3
            replace bx4 := BoxAt.ext hb bx4
            replace bx5 := BoxAt.ext hb bx5
            replace bx6 := BoxAt.ext hb bx6
            replace bx7 := BoxAt.ext hb bx7
            have hs188 := hb.size
            clear hb
            refine ⟨_, rfl, ?_⟩
            refine pT (.tuple #[.agg #[.int .i64 ((Mem.freeV ov ku).im : Int), .int .i64 ((Mem.freeV ov ku).un : Int), .int .i64 ((Mem.freeV ov ku).fr : Int), .int .i64 ((Mem.freeV ov ku).to : Int)], .int .i64 (Mem.freeE ov ku : Int)]) ?_
            refine pT (.agg #[.int .i64 ((Mem.freeV ov ku).im : Int), .int .i64 ((Mem.freeV ov ku).un : Int), .int .i64 ((Mem.freeV ov ku).fr : Int), .int .i64 ((Mem.freeV ov ku).to : Int)]) ?_
            refine pT (.int .i64 (Mem.freeE ov ku : Int)) ?_
            have hkut190 := (hX186.cell hku)
            refine pl_put rfl (by kernel_rfl) (by kernel_rfl) (sn_setK4 (O := O164) (j := 0) (v0 := .int .i64 ((Mem.freeV ov ku).im : Int)) (v1 := .int .i64 ((Mem.freeV ov ku).un : Int)) (v2 := .int .i64 ((Mem.freeV ov ku).fr : Int)) (v3 := .int .i64 ((Mem.freeV ov ku).to : Int)) (ex_store (p := .pointer (some ⟨O164, 0, none⟩)) (v := .agg #[.int .i64 ((Mem.freeV ov ku).im : Int), .int .i64 ((Mem.freeV ov ku).un : Int), .int .i64 ((Mem.freeV ov ku).fr : Int), .int .i64 ((Mem.freeV ov ku).to : Int)]) rfl (by kernel_rfl) (by kernel_rfl) (st26 bx0.1 bx0.2 bx1.1 bx1.2 bx2.1 bx2.2 bx3.1 bx3.2)) bx0 bx1 bx2 bx3 ?_)
            intro X189 ho hv0 hv1 hv2 hv3 hk
            replace hE := ho.ext hE (Nat.le_trans (Nat.le_trans hs7 (Nat.le_trans hs11 (Nat.le_trans hs15 (Nat.le_trans hs19 (Nat.le_trans hs23 (Nat.le_trans hs25 (Nat.le_trans hs26 (Nat.le_trans hs38 (Nat.le_trans hs41 (Nat.le_trans hs43 (Nat.le_trans hs46 (Nat.le_trans hs48 (Nat.le_trans hs50 (Nat.le_trans hs54 (Nat.le_trans hs56 (Nat.le_trans hn148 (Nat.le_trans hs152 (Nat.le_trans hs158 (Nat.le_trans hs161 hs163))))))))))))))))))) (Nat.le_of_eq hzO164))
            replace hX21 := ho.ext hX21 (Nat.le_trans (Nat.le_trans hs23 (Nat.le_trans hs25 (Nat.le_trans hs26 (Nat.le_trans hs38 (Nat.le_trans hs41 (Nat.le_trans hs43 (Nat.le_trans hs46 (Nat.le_trans hs48 (Nat.le_trans hs50 (Nat.le_trans hs54 (Nat.le_trans hs56 (Nat.le_trans hn148 (Nat.le_trans hs152 (Nat.le_trans hs158 (Nat.le_trans hs161 hs163))))))))))))))) (Nat.le_of_eq hzO164))
            replace hX34 := ho.ext hX34 (Nat.le_trans (Nat.le_trans hs38 (Nat.le_trans hs41 (Nat.le_trans hs43 (Nat.le_trans hs46 (Nat.le_trans hs48 (Nat.le_trans hs50 (Nat.le_trans hs54 (Nat.le_trans hs56 (Nat.le_trans hn148 (Nat.le_trans hs152 (Nat.le_trans hs158 (Nat.le_trans hs161 hs163)))))))))))) (Nat.le_of_eq hzO164))
            replace hX51 := ho.ext hX51 (Nat.le_trans (Nat.le_trans hs54 (Nat.le_trans hs56 (Nat.le_trans hn148 (Nat.le_trans hs152 (Nat.le_trans hs158 (Nat.le_trans hs161 hs163)))))) (Nat.le_of_eq hzO164))
            replace hX150 := ho.ext hX150 (Nat.le_trans (Nat.le_trans hs152 (Nat.le_trans hs158 (Nat.le_trans hs161 hs163))) (Nat.le_of_eq hzO164))
            replace hX155 := ho.ext hX155 (Nat.le_trans (Nat.le_trans hs158 (Nat.le_trans hs161 hs163)) (Nat.le_of_eq hzO164))
            replace bO36_0 := ho.box (Nat.ne_of_gt (Nat.lt_of_lt_of_le lt39 (Nat.le_trans (Nat.le_trans hs41 (Nat.le_trans hs43 (Nat.le_trans hs46 (Nat.le_trans hs48 (Nat.le_trans hs50 (Nat.le_trans hs54 (Nat.le_trans hs56 (Nat.le_trans hn148 (Nat.le_trans hs152 (Nat.le_trans hs158 (Nat.le_trans hs161 hs163))))))))))) (Nat.le_of_eq hzO164)))) bO36_0
            replace bO36_1 := ho.box (Nat.ne_of_gt (Nat.lt_of_lt_of_le lt39 (Nat.le_trans (Nat.le_trans hs41 (Nat.le_trans hs43 (Nat.le_trans hs46 (Nat.le_trans hs48 (Nat.le_trans hs50 (Nat.le_trans hs54 (Nat.le_trans hs56 (Nat.le_trans hn148 (Nat.le_trans hs152 (Nat.le_trans hs158 (Nat.le_trans hs161 hs163))))))))))) (Nat.le_of_eq hzO164)))) bO36_1
            replace bO52_0 := ho.box (Nat.ne_of_gt (Nat.lt_of_lt_of_le lt55 (Nat.le_trans (Nat.le_trans hs56 (Nat.le_trans hn148 (Nat.le_trans hs152 (Nat.le_trans hs158 (Nat.le_trans hs161 hs163))))) (Nat.le_of_eq hzO164)))) bO52_0
            replace bO52_1 := ho.box (Nat.ne_of_gt (Nat.lt_of_lt_of_le lt55 (Nat.le_trans (Nat.le_trans hs56 (Nat.le_trans hn148 (Nat.le_trans hs152 (Nat.le_trans hs158 (Nat.le_trans hs161 hs163))))) (Nat.le_of_eq hzO164)))) bO52_1
            replace bO52_2 := ho.box (Nat.ne_of_gt (Nat.lt_of_lt_of_le lt55 (Nat.le_trans (Nat.le_trans hs56 (Nat.le_trans hn148 (Nat.le_trans hs152 (Nat.le_trans hs158 (Nat.le_trans hs161 hs163))))) (Nat.le_of_eq hzO164)))) bO52_2
            replace bO137_0 := ho.box (Nat.ne_of_gt (Nat.lt_of_lt_of_le lt151 (Nat.le_trans (Nat.le_trans hs152 (Nat.le_trans hs158 (Nat.le_trans hs161 hs163))) (Nat.le_of_eq hzO164)))) bO137_0
            replace bO137_1 := ho.box (Nat.ne_of_gt (Nat.lt_of_lt_of_le lt151 (Nat.le_trans (Nat.le_trans hs152 (Nat.le_trans hs158 (Nat.le_trans hs161 hs163))) (Nat.le_of_eq hzO164)))) bO137_1
            replace bO137_2 := ho.box (Nat.ne_of_gt (Nat.lt_of_lt_of_le lt151 (Nat.le_trans (Nat.le_trans hs152 (Nat.le_trans hs158 (Nat.le_trans hs161 hs163))) (Nat.le_of_eq hzO164)))) bO137_2
            replace bO137_3 := ho.box (Nat.ne_of_gt (Nat.lt_of_lt_of_le lt151 (Nat.le_trans (Nat.le_trans hs152 (Nat.le_trans hs158 (Nat.le_trans hs161 hs163))) (Nat.le_of_eq hzO164)))) bO137_3
            replace bO137_4 := ho.box (Nat.ne_of_gt (Nat.lt_of_lt_of_le lt151 (Nat.le_trans (Nat.le_trans hs152 (Nat.le_trans hs158 (Nat.le_trans hs161 hs163))) (Nat.le_of_eq hzO164)))) bO137_4
            replace bO137_5 := ho.box (Nat.ne_of_gt (Nat.lt_of_lt_of_le lt151 (Nat.le_trans (Nat.le_trans hs152 (Nat.le_trans hs158 (Nat.le_trans hs161 hs163))) (Nat.le_of_eq hzO164)))) bO137_5
            replace bO137_6 := ho.box (Nat.ne_of_gt (Nat.lt_of_lt_of_le lt151 (Nat.le_trans (Nat.le_trans hs152 (Nat.le_trans hs158 (Nat.le_trans hs161 hs163))) (Nat.le_of_eq hzO164)))) bO137_6
            replace bO137_7 := ho.box (Nat.ne_of_gt (Nat.lt_of_lt_of_le lt151 (Nat.le_trans (Nat.le_trans hs152 (Nat.le_trans hs158 (Nat.le_trans hs161 hs163))) (Nat.le_of_eq hzO164)))) bO137_7
            replace bO137_8 := ho.box (Nat.ne_of_gt (Nat.lt_of_lt_of_le lt151 (Nat.le_trans (Nat.le_trans hs152 (Nat.le_trans hs158 (Nat.le_trans hs161 hs163))) (Nat.le_of_eq hzO164)))) bO137_8
            replace bO137_9 := ho.box (Nat.ne_of_gt (Nat.lt_of_lt_of_le lt151 (Nat.le_trans (Nat.le_trans hs152 (Nat.le_trans hs158 (Nat.le_trans hs161 hs163))) (Nat.le_of_eq hzO164)))) bO137_9
            replace bO137_10 := ho.box (Nat.ne_of_gt (Nat.lt_of_lt_of_le lt151 (Nat.le_trans (Nat.le_trans hs152 (Nat.le_trans hs158 (Nat.le_trans hs161 hs163))) (Nat.le_of_eq hzO164)))) bO137_10
            replace bO137_11 := ho.box (Nat.ne_of_gt (Nat.lt_of_lt_of_le lt151 (Nat.le_trans (Nat.le_trans hs152 (Nat.le_trans hs158 (Nat.le_trans hs161 hs163))) (Nat.le_of_eq hzO164)))) bO137_11
            replace bO137_12 := ho.box (Nat.ne_of_gt (Nat.lt_of_lt_of_le lt151 (Nat.le_trans (Nat.le_trans hs152 (Nat.le_trans hs158 (Nat.le_trans hs161 hs163))) (Nat.le_of_eq hzO164)))) bO137_12
            replace bO137_13 := ho.box (Nat.ne_of_gt (Nat.lt_of_lt_of_le lt151 (Nat.le_trans (Nat.le_trans hs152 (Nat.le_trans hs158 (Nat.le_trans hs161 hs163))) (Nat.le_of_eq hzO164)))) bO137_13
            replace bO137_14 := ho.box (Nat.ne_of_gt (Nat.lt_of_lt_of_le lt151 (Nat.le_trans (Nat.le_trans hs152 (Nat.le_trans hs158 (Nat.le_trans hs161 hs163))) (Nat.le_of_eq hzO164)))) bO137_14
            replace bO137_15 := ho.box (Nat.ne_of_gt (Nat.lt_of_lt_of_le lt151 (Nat.le_trans (Nat.le_trans hs152 (Nat.le_trans hs158 (Nat.le_trans hs161 hs163))) (Nat.le_of_eq hzO164)))) bO137_15
            replace bO137_16 := ho.box (Nat.ne_of_gt (Nat.lt_of_lt_of_le lt151 (Nat.le_trans (Nat.le_trans hs152 (Nat.le_trans hs158 (Nat.le_trans hs161 hs163))) (Nat.le_of_eq hzO164)))) bO137_16
            replace bO137_17 := ho.box (Nat.ne_of_gt (Nat.lt_of_lt_of_le lt151 (Nat.le_trans (Nat.le_trans hs152 (Nat.le_trans hs158 (Nat.le_trans hs161 hs163))) (Nat.le_of_eq hzO164)))) bO137_17
            replace bO156_0 := ho.box (Nat.ne_of_gt (Nat.lt_of_lt_of_le lt159 (Nat.le_trans (Nat.le_trans hs161 hs163) (Nat.le_of_eq hzO164)))) bO156_0
            replace bO156_1 := ho.box (Nat.ne_of_gt (Nat.lt_of_lt_of_le lt159 (Nat.le_trans (Nat.le_trans hs161 hs163) (Nat.le_of_eq hzO164)))) bO156_1
            replace bO156_2 := ho.box (Nat.ne_of_gt (Nat.lt_of_lt_of_le lt159 (Nat.le_trans (Nat.le_trans hs161 hs163) (Nat.le_of_eq hzO164)))) bO156_2
            replace bO156_3 := ho.box (Nat.ne_of_gt (Nat.lt_of_lt_of_le lt159 (Nat.le_trans (Nat.le_trans hs161 hs163) (Nat.le_of_eq hzO164)))) bO156_3
            replace bO156_4 := ho.box (Nat.ne_of_gt (Nat.lt_of_lt_of_le lt159 (Nat.le_trans (Nat.le_trans hs161 hs163) (Nat.le_of_eq hzO164)))) bO156_4
            replace bO156_5 := ho.box (Nat.ne_of_gt (Nat.lt_of_lt_of_le lt159 (Nat.le_trans (Nat.le_trans hs161 hs163) (Nat.le_of_eq hzO164)))) bO156_5
            replace bO156_6 := ho.box (Nat.ne_of_gt (Nat.lt_of_lt_of_le lt159 (Nat.le_trans (Nat.le_trans hs161 hs163) (Nat.le_of_eq hzO164)))) bO156_6
            replace bO156_7 := ho.box (Nat.ne_of_gt (Nat.lt_of_lt_of_le lt159 (Nat.le_trans (Nat.le_trans hs161 hs163) (Nat.le_of_eq hzO164)))) bO156_7
            replace bO156_8 := ho.box (Nat.ne_of_gt (Nat.lt_of_lt_of_le lt159 (Nat.le_trans (Nat.le_trans hs161 hs163) (Nat.le_of_eq hzO164)))) bO156_8
            replace bO179_0 := ho.box (Nat.ne_of_lt (Nat.lt_of_lt_of_le lt167 (Nat.le_trans (Nat.le_trans hs169 (Nat.le_trans hs171 (Nat.le_trans hs174 hs177))) (Nat.le_of_eq hzO179)))) bO179_0
            replace bO179_1 := ho.box (Nat.ne_of_lt (Nat.lt_of_lt_of_le lt167 (Nat.le_trans (Nat.le_trans hs169 (Nat.le_trans hs171 (Nat.le_trans hs174 hs177))) (Nat.le_of_eq hzO179)))) bO179_1
            replace bx4 := ho.box (Nat.ne_of_lt (Nat.lt_of_lt_of_le lt167 (Nat.le_trans (Nat.le_trans hs169 hs171) (Nat.le_of_eq hzO172)))) bx4
            replace bx5 := ho.box (Nat.ne_of_lt (Nat.lt_of_lt_of_le lt167 (Nat.le_trans (Nat.le_trans hs169 hs171) (Nat.le_of_eq hzO172)))) bx5
            replace bx6 := ho.box (Nat.ne_of_lt (Nat.lt_of_lt_of_le lt167 (Nat.le_trans (Nat.le_trans hs169 hs171) (Nat.le_of_eq hzO172)))) bx6
            replace bx7 := ho.box (Nat.ne_of_lt (Nat.lt_of_lt_of_le lt167 (Nat.le_trans (Nat.le_trans hs169 hs171) (Nat.le_of_eq hzO172)))) bx7
            replace hkut190 := ho.cell (Nat.ne_of_lt (Nat.lt_of_lt_of_le lt167 (Nat.le_trans (Nat.le_trans hs169 (Nat.le_trans hs171 (Nat.le_trans hs174 hs177))) (Nat.le_of_eq hzO179)))) hkut190
            have hs191 : w187.heap.size ≤ X189.heap.size := Nat.le_of_eq ho.size.symm
            clear ho hk bx0 bx1 bx2 bx3
            have bx0 := hv0; clear hv0
            have bx1 := hv1; clear hv1
            have bx2 := hv2; clear hv2
            have bx3 := hv3; clear hv3
            refine pT (.int .i64 (Mem.freeE ov ku : Int)) ?_
            refine pl_nil ?_
            refine qw_then ?_
            refine cw_clean [5, 19, 47, 48, 49, 50, 53, 250, 251, 252, 277, 278, 279] (ws' := [(5, .int .i64 (i5 : Int)), (19, .bool true), (47, .pointer (some ⟨O156, 0, none⟩)), (48, .pointer (some ⟨O164, 0, none⟩)), (49, .int .i64 (Mem.freeE ov ku : Int)), (50, .pointer (some ⟨O172, 0, none⟩)), (53, .int .i64 (ku : Int)), (250, .slice (some ⟨O137, 0, none⟩) 2 2), (251, .int .i64 2), (252, .int .i64 (((v : Nat) : Int) : Int)), (277, .slice (some ⟨O179, 0, none⟩) 2 2), (278, .int .i64 2), (279, .int .i64 (((u : Nat) : Int) : Int))]) (by kernel_rfl) (fun L => ?_)
            refine cw_seq ?_
            refine cw_plain ?_
            refine pl_take (.agg #[.int .i64 (ov.id : Int), .int .i64 (ov.od : Int), .int .i64 (ov.cl : Int), .int .i64 (ov.sa : Int), .int .i64 (ov.fr : Int), .int .i64 (ov.to : Int), .int .i64 (ov.lk : Int), .int .i64 (ov.sz : Int), .slice aV nV kV]) rfl (by kernel_rfl) (by kernel_rfl) (by kernel_rfl) (ex_load rfl (by kernel_rfl) (ld31 (bO156_0.1) (bO156_1.1) (bO156_2.1) (bO156_3.1) (bO156_4.1) (bO156_5.1) (bO156_6.1) (bO156_7.1) (bO156_8.1))) ?_
            refine pT (.int .i64 (ku : Int)) ?_
            refine pl_step rfl (by kernel_rfl) (by kernel_rfl) (by kernel_rfl) (sn_call (f := 31) (args := #[.agg #[.int .i64 (ov.id : Int), .int .i64 (ov.od : Int), .int .i64 (ov.cl : Int), .int .i64 (ov.sa : Int), .int .i64 (ov.fr : Int), .int .i64 (ov.to : Int), .int .i64 (ov.lk : Int), .int .i64 (ov.sz : Int), .slice aV nV kV], .int .i64 (ku : Int)]) (by kernel_rfl) ((rFreed_c (o := ov) ku _ _ hSV hX155).mono ?_))
            rintro e w192 ⟨rfl, hb⟩
            replace hE := hE.trans hb
            replace hX21 := hX21.trans hb
            replace hX34 := hX34.trans hb
            replace hX51 := hX51.trans hb
            replace hX150 := hX150.trans hb
            replace hX155 := hX155.trans hb
            replace bO36_0 := BoxAt.ext hb bO36_0
            replace bO36_1 := BoxAt.ext hb bO36_1
            replace bO52_0 := BoxAt.ext hb bO52_0
            replace bO52_1 := BoxAt.ext hb bO52_1
            replace bO52_2 := BoxAt.ext hb bO52_2
            replace bO137_0 := BoxAt.ext hb bO137_0
            replace bO137_1 := BoxAt.ext hb bO137_1
            replace bO137_2 := BoxAt.ext hb bO137_2
            replace bO137_3 := BoxAt.ext hb bO137_3
            replace bO137_4 := BoxAt.ext hb bO137_4
            replace bO137_5 := BoxAt.ext hb bO137_5
            replace bO137_6 := BoxAt.ext hb bO137_6
            replace bO137_7 := BoxAt.ext hb bO137_7
            replace bO137_8 := BoxAt.ext hb bO137_8
            replace bO137_9 := BoxAt.ext hb bO137_9
            replace bO137_10 := BoxAt.ext hb bO137_10
            replace bO137_11 := BoxAt.ext hb bO137_11
            replace bO137_12 := BoxAt.ext hb bO137_12
            replace bO137_13 := BoxAt.ext hb bO137_13
            replace bO137_14 := BoxAt.ext hb bO137_14
            replace bO137_15 := BoxAt.ext hb bO137_15
            replace bO137_16 := BoxAt.ext hb bO137_16
            replace bO137_17 := BoxAt.ext hb bO137_17
            replace bO156_0 := BoxAt.ext hb bO156_0
            replace bO156_1 := BoxAt.ext hb bO156_1
            replace bO156_2 := BoxAt.ext hb bO156_2
            replace bO156_3 := BoxAt.ext hb bO156_3
            replace bO156_4 := BoxAt.ext hb bO156_4
            replace bO156_5 := BoxAt.ext hb bO156_5
            replace bO156_6 := BoxAt.ext hb bO156_6
            replace bO156_7 := BoxAt.ext hb bO156_7
            replace bO156_8 := BoxAt.ext hb bO156_8
            replace bO179_0 := BoxAt.ext hb bO179_0
            replace bO179_1 := BoxAt.ext hb bO179_1
            replace bx4 := BoxAt.ext hb bx4
            replace bx5 := BoxAt.ext hb bx5
            replace bx6 := BoxAt.ext hb bx6
            replace bx7 := BoxAt.ext hb bx7
            replace hkut190 := hb.cell hkut190
            replace bx0 := BoxAt.ext hb bx0
            replace bx1 := BoxAt.ext hb bx1
            replace bx2 := BoxAt.ext hb bx2
            replace bx3 := BoxAt.ext hb bx3
            have hs193 := hb.size
            clear hb
            refine ⟨_, rfl, ?_⟩
            refine pT (.tuple #[.agg #[.int .i64 ((Mem.freeV ov ku).im : Int), .int .i64 ((Mem.freeV ov ku).un : Int), .int .i64 ((Mem.freeV ov ku).fr : Int), .int .i64 ((Mem.freeV ov ku).to : Int)], .int .i64 (Mem.freeE ov ku : Int)]) ?_
            refine pT (.agg #[.int .i64 ((Mem.freeV ov ku).im : Int), .int .i64 ((Mem.freeV ov ku).un : Int), .int .i64 ((Mem.freeV ov ku).fr : Int), .int .i64 ((Mem.freeV ov ku).to : Int)]) ?_
            refine pT (.int .i64 (Mem.freeE ov ku : Int)) ?_
            refine pl_put rfl (by kernel_rfl) (by kernel_rfl) (sn_setK4 (O := O172) (j := 0) (v0 := .int .i64 ((Mem.freeV ov ku).im : Int)) (v1 := .int .i64 ((Mem.freeV ov ku).un : Int)) (v2 := .int .i64 ((Mem.freeV ov ku).fr : Int)) (v3 := .int .i64 ((Mem.freeV ov ku).to : Int)) (ex_store (p := .pointer (some ⟨O172, 0, none⟩)) (v := .agg #[.int .i64 ((Mem.freeV ov ku).im : Int), .int .i64 ((Mem.freeV ov ku).un : Int), .int .i64 ((Mem.freeV ov ku).fr : Int), .int .i64 ((Mem.freeV ov ku).to : Int)]) rfl (by kernel_rfl) (by kernel_rfl) (st26 bx4.1 bx4.2 bx5.1 bx5.2 bx6.1 bx6.2 bx7.1 bx7.2)) bx4 bx5 bx6 bx7 ?_)
            intro X194 ho hv0 hv1 hv2 hv3 hk
            replace hE := ho.ext hE (Nat.le_trans (Nat.le_trans hs7 (Nat.le_trans hs11 (Nat.le_trans hs15 (Nat.le_trans hs19 (Nat.le_trans hs23 (Nat.le_trans hs25 (Nat.le_trans hs26 (Nat.le_trans hs38 (Nat.le_trans hs41 (Nat.le_trans hs43 (Nat.le_trans hs46 (Nat.le_trans hs48 (Nat.le_trans hs50 (Nat.le_trans hs54 (Nat.le_trans hs56 (Nat.le_trans hn148 (Nat.le_trans hs152 (Nat.le_trans hs158 (Nat.le_trans hs161 (Nat.le_trans hs163 (Nat.le_trans hs166 (Nat.le_trans hs169 hs171)))))))))))))))))))))) (Nat.le_of_eq hzO172))
            replace hX21 := ho.ext hX21 (Nat.le_trans (Nat.le_trans hs23 (Nat.le_trans hs25 (Nat.le_trans hs26 (Nat.le_trans hs38 (Nat.le_trans hs41 (Nat.le_trans hs43 (Nat.le_trans hs46 (Nat.le_trans hs48 (Nat.le_trans hs50 (Nat.le_trans hs54 (Nat.le_trans hs56 (Nat.le_trans hn148 (Nat.le_trans hs152 (Nat.le_trans hs158 (Nat.le_trans hs161 (Nat.le_trans hs163 (Nat.le_trans hs166 (Nat.le_trans hs169 hs171)))))))))))))))))) (Nat.le_of_eq hzO172))
            replace hX34 := ho.ext hX34 (Nat.le_trans (Nat.le_trans hs38 (Nat.le_trans hs41 (Nat.le_trans hs43 (Nat.le_trans hs46 (Nat.le_trans hs48 (Nat.le_trans hs50 (Nat.le_trans hs54 (Nat.le_trans hs56 (Nat.le_trans hn148 (Nat.le_trans hs152 (Nat.le_trans hs158 (Nat.le_trans hs161 (Nat.le_trans hs163 (Nat.le_trans hs166 (Nat.le_trans hs169 hs171))))))))))))))) (Nat.le_of_eq hzO172))
            replace hX51 := ho.ext hX51 (Nat.le_trans (Nat.le_trans hs54 (Nat.le_trans hs56 (Nat.le_trans hn148 (Nat.le_trans hs152 (Nat.le_trans hs158 (Nat.le_trans hs161 (Nat.le_trans hs163 (Nat.le_trans hs166 (Nat.le_trans hs169 hs171))))))))) (Nat.le_of_eq hzO172))
            replace hX150 := ho.ext hX150 (Nat.le_trans (Nat.le_trans hs152 (Nat.le_trans hs158 (Nat.le_trans hs161 (Nat.le_trans hs163 (Nat.le_trans hs166 (Nat.le_trans hs169 hs171)))))) (Nat.le_of_eq hzO172))
            replace hX155 := ho.ext hX155 (Nat.le_trans (Nat.le_trans hs158 (Nat.le_trans hs161 (Nat.le_trans hs163 (Nat.le_trans hs166 (Nat.le_trans hs169 hs171))))) (Nat.le_of_eq hzO172))
            replace bO36_0 := ho.box (Nat.ne_of_gt (Nat.lt_of_lt_of_le lt39 (Nat.le_trans (Nat.le_trans hs41 (Nat.le_trans hs43 (Nat.le_trans hs46 (Nat.le_trans hs48 (Nat.le_trans hs50 (Nat.le_trans hs54 (Nat.le_trans hs56 (Nat.le_trans hn148 (Nat.le_trans hs152 (Nat.le_trans hs158 (Nat.le_trans hs161 (Nat.le_trans hs163 (Nat.le_trans hs166 (Nat.le_trans hs169 hs171)))))))))))))) (Nat.le_of_eq hzO172)))) bO36_0
            replace bO36_1 := ho.box (Nat.ne_of_gt (Nat.lt_of_lt_of_le lt39 (Nat.le_trans (Nat.le_trans hs41 (Nat.le_trans hs43 (Nat.le_trans hs46 (Nat.le_trans hs48 (Nat.le_trans hs50 (Nat.le_trans hs54 (Nat.le_trans hs56 (Nat.le_trans hn148 (Nat.le_trans hs152 (Nat.le_trans hs158 (Nat.le_trans hs161 (Nat.le_trans hs163 (Nat.le_trans hs166 (Nat.le_trans hs169 hs171)))))))))))))) (Nat.le_of_eq hzO172)))) bO36_1
            replace bO52_0 := ho.box (Nat.ne_of_gt (Nat.lt_of_lt_of_le lt55 (Nat.le_trans (Nat.le_trans hs56 (Nat.le_trans hn148 (Nat.le_trans hs152 (Nat.le_trans hs158 (Nat.le_trans hs161 (Nat.le_trans hs163 (Nat.le_trans hs166 (Nat.le_trans hs169 hs171)))))))) (Nat.le_of_eq hzO172)))) bO52_0
            replace bO52_1 := ho.box (Nat.ne_of_gt (Nat.lt_of_lt_of_le lt55 (Nat.le_trans (Nat.le_trans hs56 (Nat.le_trans hn148 (Nat.le_trans hs152 (Nat.le_trans hs158 (Nat.le_trans hs161 (Nat.le_trans hs163 (Nat.le_trans hs166 (Nat.le_trans hs169 hs171)))))))) (Nat.le_of_eq hzO172)))) bO52_1
            replace bO52_2 := ho.box (Nat.ne_of_gt (Nat.lt_of_lt_of_le lt55 (Nat.le_trans (Nat.le_trans hs56 (Nat.le_trans hn148 (Nat.le_trans hs152 (Nat.le_trans hs158 (Nat.le_trans hs161 (Nat.le_trans hs163 (Nat.le_trans hs166 (Nat.le_trans hs169 hs171)))))))) (Nat.le_of_eq hzO172)))) bO52_2
            replace bO137_0 := ho.box (Nat.ne_of_gt (Nat.lt_of_lt_of_le lt151 (Nat.le_trans (Nat.le_trans hs152 (Nat.le_trans hs158 (Nat.le_trans hs161 (Nat.le_trans hs163 (Nat.le_trans hs166 (Nat.le_trans hs169 hs171)))))) (Nat.le_of_eq hzO172)))) bO137_0
            replace bO137_1 := ho.box (Nat.ne_of_gt (Nat.lt_of_lt_of_le lt151 (Nat.le_trans (Nat.le_trans hs152 (Nat.le_trans hs158 (Nat.le_trans hs161 (Nat.le_trans hs163 (Nat.le_trans hs166 (Nat.le_trans hs169 hs171)))))) (Nat.le_of_eq hzO172)))) bO137_1
            replace bO137_2 := ho.box (Nat.ne_of_gt (Nat.lt_of_lt_of_le lt151 (Nat.le_trans (Nat.le_trans hs152 (Nat.le_trans hs158 (Nat.le_trans hs161 (Nat.le_trans hs163 (Nat.le_trans hs166 (Nat.le_trans hs169 hs171)))))) (Nat.le_of_eq hzO172)))) bO137_2
            replace bO137_3 := ho.box (Nat.ne_of_gt (Nat.lt_of_lt_of_le lt151 (Nat.le_trans (Nat.le_trans hs152 (Nat.le_trans hs158 (Nat.le_trans hs161 (Nat.le_trans hs163 (Nat.le_trans hs166 (Nat.le_trans hs169 hs171)))))) (Nat.le_of_eq hzO172)))) bO137_3
            replace bO137_4 := ho.box (Nat.ne_of_gt (Nat.lt_of_lt_of_le lt151 (Nat.le_trans (Nat.le_trans hs152 (Nat.le_trans hs158 (Nat.le_trans hs161 (Nat.le_trans hs163 (Nat.le_trans hs166 (Nat.le_trans hs169 hs171)))))) (Nat.le_of_eq hzO172)))) bO137_4
            replace bO137_5 := ho.box (Nat.ne_of_gt (Nat.lt_of_lt_of_le lt151 (Nat.le_trans (Nat.le_trans hs152 (Nat.le_trans hs158 (Nat.le_trans hs161 (Nat.le_trans hs163 (Nat.le_trans hs166 (Nat.le_trans hs169 hs171)))))) (Nat.le_of_eq hzO172)))) bO137_5
            replace bO137_6 := ho.box (Nat.ne_of_gt (Nat.lt_of_lt_of_le lt151 (Nat.le_trans (Nat.le_trans hs152 (Nat.le_trans hs158 (Nat.le_trans hs161 (Nat.le_trans hs163 (Nat.le_trans hs166 (Nat.le_trans hs169 hs171)))))) (Nat.le_of_eq hzO172)))) bO137_6
            replace bO137_7 := ho.box (Nat.ne_of_gt (Nat.lt_of_lt_of_le lt151 (Nat.le_trans (Nat.le_trans hs152 (Nat.le_trans hs158 (Nat.le_trans hs161 (Nat.le_trans hs163 (Nat.le_trans hs166 (Nat.le_trans hs169 hs171)))))) (Nat.le_of_eq hzO172)))) bO137_7
            replace bO137_8 := ho.box (Nat.ne_of_gt (Nat.lt_of_lt_of_le lt151 (Nat.le_trans (Nat.le_trans hs152 (Nat.le_trans hs158 (Nat.le_trans hs161 (Nat.le_trans hs163 (Nat.le_trans hs166 (Nat.le_trans hs169 hs171)))))) (Nat.le_of_eq hzO172)))) bO137_8
            replace bO137_9 := ho.box (Nat.ne_of_gt (Nat.lt_of_lt_of_le lt151 (Nat.le_trans (Nat.le_trans hs152 (Nat.le_trans hs158 (Nat.le_trans hs161 (Nat.le_trans hs163 (Nat.le_trans hs166 (Nat.le_trans hs169 hs171)))))) (Nat.le_of_eq hzO172)))) bO137_9
            replace bO137_10 := ho.box (Nat.ne_of_gt (Nat.lt_of_lt_of_le lt151 (Nat.le_trans (Nat.le_trans hs152 (Nat.le_trans hs158 (Nat.le_trans hs161 (Nat.le_trans hs163 (Nat.le_trans hs166 (Nat.le_trans hs169 hs171)))))) (Nat.le_of_eq hzO172)))) bO137_10
            replace bO137_11 := ho.box (Nat.ne_of_gt (Nat.lt_of_lt_of_le lt151 (Nat.le_trans (Nat.le_trans hs152 (Nat.le_trans hs158 (Nat.le_trans hs161 (Nat.le_trans hs163 (Nat.le_trans hs166 (Nat.le_trans hs169 hs171)))))) (Nat.le_of_eq hzO172)))) bO137_11
            replace bO137_12 := ho.box (Nat.ne_of_gt (Nat.lt_of_lt_of_le lt151 (Nat.le_trans (Nat.le_trans hs152 (Nat.le_trans hs158 (Nat.le_trans hs161 (Nat.le_trans hs163 (Nat.le_trans hs166 (Nat.le_trans hs169 hs171)))))) (Nat.le_of_eq hzO172)))) bO137_12
            replace bO137_13 := ho.box (Nat.ne_of_gt (Nat.lt_of_lt_of_le lt151 (Nat.le_trans (Nat.le_trans hs152 (Nat.le_trans hs158 (Nat.le_trans hs161 (Nat.le_trans hs163 (Nat.le_trans hs166 (Nat.le_trans hs169 hs171)))))) (Nat.le_of_eq hzO172)))) bO137_13
            replace bO137_14 := ho.box (Nat.ne_of_gt (Nat.lt_of_lt_of_le lt151 (Nat.le_trans (Nat.le_trans hs152 (Nat.le_trans hs158 (Nat.le_trans hs161 (Nat.le_trans hs163 (Nat.le_trans hs166 (Nat.le_trans hs169 hs171)))))) (Nat.le_of_eq hzO172)))) bO137_14
            replace bO137_15 := ho.box (Nat.ne_of_gt (Nat.lt_of_lt_of_le lt151 (Nat.le_trans (Nat.le_trans hs152 (Nat.le_trans hs158 (Nat.le_trans hs161 (Nat.le_trans hs163 (Nat.le_trans hs166 (Nat.le_trans hs169 hs171)))))) (Nat.le_of_eq hzO172)))) bO137_15
            replace bO137_16 := ho.box (Nat.ne_of_gt (Nat.lt_of_lt_of_le lt151 (Nat.le_trans (Nat.le_trans hs152 (Nat.le_trans hs158 (Nat.le_trans hs161 (Nat.le_trans hs163 (Nat.le_trans hs166 (Nat.le_trans hs169 hs171)))))) (Nat.le_of_eq hzO172)))) bO137_16
            replace bO137_17 := ho.box (Nat.ne_of_gt (Nat.lt_of_lt_of_le lt151 (Nat.le_trans (Nat.le_trans hs152 (Nat.le_trans hs158 (Nat.le_trans hs161 (Nat.le_trans hs163 (Nat.le_trans hs166 (Nat.le_trans hs169 hs171)))))) (Nat.le_of_eq hzO172)))) bO137_17
            replace bO156_0 := ho.box (Nat.ne_of_gt (Nat.lt_of_lt_of_le lt159 (Nat.le_trans (Nat.le_trans hs161 (Nat.le_trans hs163 (Nat.le_trans hs166 (Nat.le_trans hs169 hs171)))) (Nat.le_of_eq hzO172)))) bO156_0
            replace bO156_1 := ho.box (Nat.ne_of_gt (Nat.lt_of_lt_of_le lt159 (Nat.le_trans (Nat.le_trans hs161 (Nat.le_trans hs163 (Nat.le_trans hs166 (Nat.le_trans hs169 hs171)))) (Nat.le_of_eq hzO172)))) bO156_1
            replace bO156_2 := ho.box (Nat.ne_of_gt (Nat.lt_of_lt_of_le lt159 (Nat.le_trans (Nat.le_trans hs161 (Nat.le_trans hs163 (Nat.le_trans hs166 (Nat.le_trans hs169 hs171)))) (Nat.le_of_eq hzO172)))) bO156_2
            replace bO156_3 := ho.box (Nat.ne_of_gt (Nat.lt_of_lt_of_le lt159 (Nat.le_trans (Nat.le_trans hs161 (Nat.le_trans hs163 (Nat.le_trans hs166 (Nat.le_trans hs169 hs171)))) (Nat.le_of_eq hzO172)))) bO156_3
            replace bO156_4 := ho.box (Nat.ne_of_gt (Nat.lt_of_lt_of_le lt159 (Nat.le_trans (Nat.le_trans hs161 (Nat.le_trans hs163 (Nat.le_trans hs166 (Nat.le_trans hs169 hs171)))) (Nat.le_of_eq hzO172)))) bO156_4
            replace bO156_5 := ho.box (Nat.ne_of_gt (Nat.lt_of_lt_of_le lt159 (Nat.le_trans (Nat.le_trans hs161 (Nat.le_trans hs163 (Nat.le_trans hs166 (Nat.le_trans hs169 hs171)))) (Nat.le_of_eq hzO172)))) bO156_5
            replace bO156_6 := ho.box (Nat.ne_of_gt (Nat.lt_of_lt_of_le lt159 (Nat.le_trans (Nat.le_trans hs161 (Nat.le_trans hs163 (Nat.le_trans hs166 (Nat.le_trans hs169 hs171)))) (Nat.le_of_eq hzO172)))) bO156_6
            replace bO156_7 := ho.box (Nat.ne_of_gt (Nat.lt_of_lt_of_le lt159 (Nat.le_trans (Nat.le_trans hs161 (Nat.le_trans hs163 (Nat.le_trans hs166 (Nat.le_trans hs169 hs171)))) (Nat.le_of_eq hzO172)))) bO156_7
            replace bO156_8 := ho.box (Nat.ne_of_gt (Nat.lt_of_lt_of_le lt159 (Nat.le_trans (Nat.le_trans hs161 (Nat.le_trans hs163 (Nat.le_trans hs166 (Nat.le_trans hs169 hs171)))) (Nat.le_of_eq hzO172)))) bO156_8
            replace bO179_0 := ho.box (Nat.ne_of_lt (Nat.lt_of_lt_of_le lt175 (Nat.le_trans hs177 (Nat.le_of_eq hzO179)))) bO179_0
            replace bO179_1 := ho.box (Nat.ne_of_lt (Nat.lt_of_lt_of_le lt175 (Nat.le_trans hs177 (Nat.le_of_eq hzO179)))) bO179_1
            replace hkut190 := ho.cell (Nat.ne_of_lt (Nat.lt_of_lt_of_le lt175 (Nat.le_trans hs177 (Nat.le_of_eq hzO179)))) hkut190
            replace bx0 := ho.box (Nat.ne_of_gt (Nat.lt_of_lt_of_le lt167 (Nat.le_trans (Nat.le_trans hs169 hs171) (Nat.le_of_eq hzO172)))) bx0
            replace bx1 := ho.box (Nat.ne_of_gt (Nat.lt_of_lt_of_le lt167 (Nat.le_trans (Nat.le_trans hs169 hs171) (Nat.le_of_eq hzO172)))) bx1
            replace bx2 := ho.box (Nat.ne_of_gt (Nat.lt_of_lt_of_le lt167 (Nat.le_trans (Nat.le_trans hs169 hs171) (Nat.le_of_eq hzO172)))) bx2
            replace bx3 := ho.box (Nat.ne_of_gt (Nat.lt_of_lt_of_le lt167 (Nat.le_trans (Nat.le_trans hs169 hs171) (Nat.le_of_eq hzO172)))) bx3
            have hs195 : w192.heap.size ≤ X194.heap.size := Nat.le_of_eq ho.size.symm
            clear ho hk bx4 bx5 bx6 bx7
            have bx4 := hv0; clear hv0
            have bx5 := hv1; clear hv1
            have bx6 := hv2; clear hv2
            have bx7 := hv3; clear hv3
            refine pT (.int .i64 (Mem.freeE ov ku : Int)) ?_
            refine pl_nil ?_
            refine qw_then ?_
            refine cw_clean [5, 19, 47, 48, 49, 50, 51, 250, 251, 252, 277, 278, 279] (ws' := [(5, .int .i64 (i5 : Int)), (19, .bool true), (47, .pointer (some ⟨O156, 0, none⟩)), (48, .pointer (some ⟨O164, 0, none⟩)), (49, .int .i64 (Mem.freeE ov ku : Int)), (50, .pointer (some ⟨O172, 0, none⟩)), (51, .int .i64 (Mem.freeE ov ku : Int)), (250, .slice (some ⟨O137, 0, none⟩) 2 2), (251, .int .i64 2), (252, .int .i64 (((v : Nat) : Int) : Int)), (277, .slice (some ⟨O179, 0, none⟩) 2 2), (278, .int .i64 2), (279, .int .i64 (((u : Nat) : Int) : Int))]) (by kernel_rfl) (fun L => ?_)
            refine cw_seq ?_
            refine cw_plain ?_
            refine pl_take (.agg #[.int .i64 ((Mem.freeV ov ku).im : Int), .int .i64 ((Mem.freeV ov ku).un : Int), .int .i64 ((Mem.freeV ov ku).fr : Int), .int .i64 ((Mem.freeV ov ku).to : Int)]) rfl (by kernel_rfl) (by kernel_rfl) (by kernel_rfl) (ex_load rfl (by kernel_rfl) (ld26 (bx0.1) (bx1.1) (bx2.1) (bx3.1))) ?_
            refine pl_take (.agg #[.int .i64 ((Mem.freeV ov ku).im : Int), .int .i64 ((Mem.freeV ov ku).un : Int), .int .i64 ((Mem.freeV ov ku).fr : Int), .int .i64 ((Mem.freeV ov ku).to : Int)]) rfl (by kernel_rfl) (by kernel_rfl) (by kernel_rfl) (ex_load rfl (by kernel_rfl) (ld26 (bx4.1) (bx5.1) (bx6.1) (bx7.1))) ?_
            refine pl_take (.bool false) rfl (by kernel_rfl) (by kernel_rfl) (by kernel_rfl) (ex_s26 (xs := #[.int .i64 ((Mem.freeV ov ku).im : Int), .int .i64 ((Mem.freeV ov ku).un : Int), .int .i64 ((Mem.freeV ov ku).fr : Int), .int .i64 ((Mem.freeV ov ku).to : Int)]) (ys := #[.int .i64 ((Mem.freeV ov ku).im : Int), .int .i64 ((Mem.freeV ov ku).un : Int), .int .i64 ((Mem.freeV ov ku).fr : Int), .int .i64 ((Mem.freeV ov ku).to : Int)]) (v := .bool false) rfl (by kernel_rfl) (by kernel_rfl) (neq26.trans (congrArg (fun b => Result.ok (Value.bool b) _) (by simp)))) ?_
            refine pT (.bool false) ?_
            refine pT (.int .i64 (Mem.freeE ov ku : Int)) ?_
            refine pT (.int .i64 (Mem.freeE ov ku : Int)) ?_
            refine pl_take (.bool false) rfl (by kernel_rfl) (by kernel_rfl) (by kernel_rfl) (ev_nne (show _ = Result.ok (Next.value (Value.bool ((Mem.freeE ov ku : Int) != (Mem.freeE ov ku : Int)))) _ from by kernel_rfl) (rfl)) ?_
            refine pT (.bool false) ?_
            refine pl_nil ?_
            refine qw_then ?_
            refine cw_clean [5, 19, 47, 48, 50, 250, 251, 252, 277, 278, 279, 302] (ws' := [(5, .int .i64 (i5 : Int)), (19, .bool true), (47, .pointer (some ⟨O156, 0, none⟩)), (48, .pointer (some ⟨O164, 0, none⟩)), (50, .pointer (some ⟨O172, 0, none⟩)), (250, .slice (some ⟨O137, 0, none⟩) 2 2), (251, .int .i64 2), (252, .int .i64 (((v : Nat) : Int) : Int)), (277, .slice (some ⟨O179, 0, none⟩) 2 2), (278, .int .i64 2), (279, .int .i64 (((u : Nat) : Int) : Int)), (302, .bool false)]) (by kernel_rfl) (fun L => ?_)
            refine cw_f (by kernel_rfl) ?_
            refine cw_skip ?_
            refine qw_block ?_
            refine qw_then ?_
            refine cw_plain ?_
            refine pl_take (.int .i64 (((u + 1 : Nat) : Int) : Int)) rfl (by kernel_rfl) (by kernel_rfl) (by kernel_rfl) (ev_wrap (by kernel_rfl) (by omega) (by omega)) ?_
            refine pT (.int .i64 (((u + 1 : Nat) : Int) : Int)) ?_
            refine pl_nil ?_
            refine qw_round [5, 19, 47, 48, 50, 250, 251, 252, 277, 278, 279] (ws' := [(5, .int .i64 (i5 : Int)), (19, .bool true), (47, .pointer (some ⟨O156, 0, none⟩)), (48, .pointer (some ⟨O164, 0, none⟩)), (50, .pointer (some ⟨O172, 0, none⟩)), (250, .slice (some ⟨O137, 0, none⟩) 2 2), (251, .int .i64 2), (252, .int .i64 (((v : Nat) : Int) : Int)), (277, .slice (some ⟨O179, 0, none⟩) 2 2), (278, .int .i64 2), (279, .int .i64 (((u + 1 : Nat) : Int) : Int))]) (by kernel_rfl) _ ?_ ⟨(u + 1), (Mem.freeV ov ku).im, (Mem.freeV ov ku).un, (Mem.freeV ov ku).fr, (Mem.freeV ov ku).to, (Mem.freeV ov ku).im, (Mem.freeV ov ku).un, (Mem.freeV ov ku).fr, (Mem.freeV ov ku).to, rfl, rfl, (Nat.le_trans hs183 (Nat.le_trans hs188 (Nat.le_trans hs191 (Nat.le_trans hs193 hs195)))), hE, hX21, hX34, hX51, hX150, hX155, bO36_0, bO36_1, bO52_0, bO52_1, bO52_2, bO137_0, bO137_1, bO137_2, bO137_3, bO137_4, bO137_5, bO137_6, bO137_7, bO137_8, bO137_9, bO137_10, bO137_11, bO137_12, bO137_13, bO137_14, bO137_15, bO137_16, bO137_17, bO156_0, bO156_1, bO156_2, bO156_3, bO156_4, bO156_5, bO156_6, bO156_7, bO156_8, bO179_0, bO179_1, bx0, bx1, bx2, bx3, bx4, bx5, bx6, bx7, by omega⟩
            omega
          ·
            refine cw_seq ?_
            refine cw_plain ?_
            refine pl_take (.bool false) rfl (by kernel_rfl) (by kernel_rfl) (by kernel_rfl) (ev_ndec (show _ = Result.ok (Next.value (Value.bool (decide ((((u : Nat) : Int) : Int) < (2 : Int))))) _ from by kernel_rfl) (by omega)) ?_
            refine pl_nil ?_
            refine qw_then ?_
            refine cw_seq ?_
            refine cw_f (by kernel_rfl) ?_
            refine cw_exit ?_
            refine qw_then_exit ?_
            refine qw_then_exit ?_
            refine qw_block_out ?_
            refine qw_block ?_
            refine qw_then ?_
            refine cw_plain ?_
            refine pl_take (.int .i64 (((v + 1 : Nat) : Int) : Int)) rfl (by kernel_rfl) (by kernel_rfl) (by kernel_rfl) (ev_wrap (by kernel_rfl) (by omega) (by omega)) ?_
            refine pT (.int .i64 (((v + 1 : Nat) : Int) : Int)) ?_
            refine pl_nil ?_
            refine qw_round [5, 19, 250, 251, 252] (ws' := [(5, .int .i64 (i5 : Int)), (19, .bool true), (250, .slice (some ⟨O137, 0, none⟩) 2 2), (251, .int .i64 2), (252, .int .i64 (((v + 1 : Nat) : Int) : Int))]) (by kernel_rfl) _ ?_ ⟨(v + 1), rfl, rfl, (Nat.le_trans hs152 (Nat.le_trans hs158 (Nat.le_trans hs161 (Nat.le_trans hs163 (Nat.le_trans hs166 (Nat.le_trans hs169 (Nat.le_trans hs171 (Nat.le_trans hs174 (Nat.le_trans hs177 (Nat.le_trans hs181 hs183)))))))))), hE, hX21, hX34, hX51, hX150, bO36_0, bO36_1, bO52_0, bO52_1, bO52_2, bO137_0, bO137_1, bO137_2, bO137_3, bO137_4, bO137_5, bO137_6, bO137_7, bO137_8, bO137_9, bO137_10, bO137_11, bO137_12, bO137_13, bO137_14, bO137_15, bO137_16, bO137_17, by omega⟩
            omega
        ·
          refine cw_seq ?_
          refine cw_plain ?_
          refine pl_take (.bool false) rfl (by kernel_rfl) (by kernel_rfl) (by kernel_rfl) (ev_ndec (show _ = Result.ok (Next.value (Value.bool (decide ((((v : Nat) : Int) : Int) < (2 : Int))))) _ from by kernel_rfl) (by omega)) ?_
          refine pl_nil ?_
          refine qw_then ?_
          refine cw_seq ?_
          refine cw_f (by kernel_rfl) ?_
          refine cw_exit ?_
          refine qw_then_exit ?_
          refine qw_then_exit ?_
          refine qw_block_out ?_
          refine qw_then ?_
          refine cw_seq ?_
          refine cw_plain ?_
          refine pT (.bool true) ?_
          refine pT (.bool true) ?_
          refine pl_nil ?_
          refine qw_then ?_
          refine cw_ret ?_
          refine qw_ret [.bool true] rfl ⟨(by kernel_rfl), trivial⟩ ?_
          exact ⟨rfl, hE⟩

end Go.Proofs.Ytnbjjddfcondlaa
