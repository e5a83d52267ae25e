/- The statement SwathLonger: for every input that the row lists, the law returns true, and every argument reads as it read before. -/
import Derived.Test.YtdjjkhefdalokaaV7SwathLonger
/- The walk of SwathLonger. -/
namespace Go.Proofs.Ytdjjkhefdalokaa
open Go.RowKit

set_option maxRecDepth 1000000 in
set_option maxHeartbeats 4000000 in
theorem SwathLonger_w (x0 x1 x2 x3 x4 x5 x6 y0 y1 lk ka : Int) (ix0 : IsI x0) (ix1 : IsI x1) (ix2 : IsI x2) (ix3 : IsI x3) (ix4 : IsI x4) (ix5 : IsI x5) (ix6 : IsI x6) (iy0 : IsI y0) (iy1 : IsI y1) (ilk : IsI lk) (ika : IsI ka) (w : World) : Calls Try.prog 6 #[.agg #[.int .i64 x0, .int .i64 x1, .int .i64 x2, .int .i64 x3, .int .i64 x4, .int .i64 x5, .int .i64 x6], .agg #[.int .i64 y0, .int .i64 y1], .int .i64 lk, .int .i64 ka] w fun e w' => e = .returned (.bool true) ∧ Ext w w' := by
  refine calls_cw 120 [(3, .int .i64 (ka : Int)), (2, .int .i64 (lk : Int)), (1, .agg #[.int .i64 (y0 : Int), .int .i64 (y1 : Int)]), (0, .agg #[.int .i64 (x0 : Int), .int .i64 (x1 : Int), .int .i64 (x2 : Int), .int .i64 (x3 : Int), .int .i64 (x4 : Int), .int .i64 (x5 : Int), .int .i64 (x6 : Int)])] Try.func6 rfl Try.ntmps6 (by kernel_rfl) (by kernel_rfl) (fun L => ?_)
  have hE : Ext w w := Ext.refl w
  refine cw_seq ?_
  refine cw_plain ?_
  refine pl_step rfl (by kernel_rfl) (by kernel_rfl) (by kernel_rfl) (sn_new (us := #[.int .i64 (x0 : Int), .int .i64 (x1 : Int), .int .i64 (x2 : Int), .int .i64 (x3 : Int), .int .i64 (x4 : Int), .int .i64 (x5 : Int), .int .i64 (x6 : Int)]) (t := 22) (by kernel_rfl) ?_)
  intro O1 X2 hO hOs hb hbx
  have hzO1 := hO; have hyO1 := hOs; clear hO hOs
  have bO1_0 : BoxAt X2 O1 0 (.int .i64 (x0 : Int)) := hbx 0 _ rfl
  have bO1_1 : BoxAt X2 O1 1 (.int .i64 (x1 : Int)) := hbx 1 _ rfl
  have bO1_2 : BoxAt X2 O1 2 (.int .i64 (x2 : Int)) := hbx 2 _ rfl
  have bO1_3 : BoxAt X2 O1 3 (.int .i64 (x3 : Int)) := hbx 3 _ rfl
  have bO1_4 : BoxAt X2 O1 4 (.int .i64 (x4 : Int)) := hbx 4 _ rfl
  have bO1_5 : BoxAt X2 O1 5 (.int .i64 (x5 : Int)) := hbx 5 _ rfl
  have bO1_6 : BoxAt X2 O1 6 (.int .i64 (x6 : Int)) := hbx 6 _ rfl
  clear hbx
  replace hE := hE.trans hb
  have hs3 := hb.size
  clear hb
  have lt4 := bO1_0.lt
  refine pl_step rfl (by kernel_rfl) (by kernel_rfl) (by kernel_rfl) (sn_new (us := #[.int .i64 (y0 : Int), .int .i64 (y1 : Int)]) (t := 35) (by kernel_rfl) ?_)
  intro O5 X6 hO hOs hb hbx
  have hzO5 := hO; have hyO5 := hOs; clear hO hOs
  have bO5_0 : BoxAt X6 O5 0 (.int .i64 (y0 : Int)) := hbx 0 _ rfl
  have bO5_1 : BoxAt X6 O5 1 (.int .i64 (y1 : Int)) := hbx 1 _ rfl
  clear hbx
  replace hE := hE.trans hb
  replace bO1_0 := BoxAt.ext hb bO1_0
  replace bO1_1 := BoxAt.ext hb bO1_1
  replace bO1_2 := BoxAt.ext hb bO1_2
  replace bO1_3 := BoxAt.ext hb bO1_3
  replace bO1_4 := BoxAt.ext hb bO1_4
  replace bO1_5 := BoxAt.ext hb bO1_5
  replace bO1_6 := BoxAt.ext hb bO1_6
  have hs7 := hb.size
  clear hb
  have lt8 := bO5_0.lt
  refine pl_take (.bool false) rfl (by kernel_rfl) (by kernel_rfl) (by kernel_rfl) (by kernel_rfl) ?_
  refine pl_nil ?_
  refine qw_then ?_
  refine cw_seq ?_
  have hX9 : Ext X6 X6 := Ext.refl _
  refine cw_plain ?_
  refine pl_step rfl (by kernel_rfl) (by kernel_rfl) (by kernel_rfl) (sn_call (f := 9) (args := #[]) (by kernel_rfl) ((saneS_c _).mono ?_))
  rintro e w10 ⟨rfl, hb⟩
  replace hE := hE.trans hb
  replace hX9 := hX9.trans hb
  have hs11 := hb.size
  clear hb
  refine ⟨_, rfl, ?_⟩
  refine pl_take (.bool true) rfl (by kernel_rfl) (by kernel_rfl) (by kernel_rfl) (by kernel_rfl) ?_
  refine pl_nil ?_
  refine qw_then ?_
  refine cw_seq ?_
  refine cw_seq ?_
  refine cw_plain ?_
  refine pl_take (.bool true) rfl (by kernel_rfl) (by kernel_rfl) (by kernel_rfl) (by kernel_rfl) ?_
  refine pl_take (.bool false) rfl (by kernel_rfl) (by kernel_rfl) (by kernel_rfl) (by kernel_rfl) ?_
  refine pl_nil ?_
  refine qw_then ?_
  refine cw_f (by kernel_rfl) ?_
  refine cw_skip ?_
  refine qw_then ?_
  refine cw_seq ?_
  refine cw_plain ?_
  refine pl_take (.agg #[.int .i64 (x0 : Int), .int .i64 (x1 : Int), .int .i64 (x2 : Int), .int .i64 (x3 : Int), .int .i64 (x4 : Int), .int .i64 (x5 : Int), .int .i64 (x6 : Int)]) rfl (by kernel_rfl) (by kernel_rfl) (by kernel_rfl) (ex_load rfl (by kernel_rfl) (ld22 ((BoxAt.ext hX9 bO1_0).1) ((BoxAt.ext hX9 bO1_1).1) ((BoxAt.ext hX9 bO1_2).1) ((BoxAt.ext hX9 bO1_3).1) ((BoxAt.ext hX9 bO1_4).1) ((BoxAt.ext hX9 bO1_5).1) ((BoxAt.ext hX9 bO1_6).1))) ?_
  refine pl_step rfl (by kernel_rfl) (by kernel_rfl) (by kernel_rfl) (sn_call (f := 11) (args := #[.agg #[.int .i64 (x0 : Int), .int .i64 (x1 : Int), .int .i64 (x2 : Int), .int .i64 (x3 : Int), .int .i64 (x4 : Int), .int .i64 (x5 : Int), .int .i64 (x6 : Int)]]) (by kernel_rfl) ((Made7_c _ _ _ _ _ _ _ _ ix0 ix1 ix2 ix3 ix4 ix5 ix6).mono ?_))
  rintro e w12 ⟨o, rfl, hok, hsl, hb⟩
  replace hE := hE.trans hb
  replace hX9 := hX9.trans hb
  have hs13 := hb.size
  clear hb
  have hq0 := Orb.ok_t.1 hok
  refine ⟨_, rfl, ?_⟩
  refine pl_step rfl (by kernel_rfl) (by kernel_rfl) (by kernel_rfl) (sn_new (us := #[.int .i64 0, .int .i64 0, .int .i64 0, .int .i64 0, .int .i64 0, .int .i64 0, .int .i64 0]) (t := 24) (by kernel_rfl) ?_)
  intro O14 X15 hO hOs hb hbx
  have hzO14 := hO; have hyO14 := hOs; clear hO hOs
  have bO14_0 : BoxAt X15 O14 0 (.int .i64 0) := hbx 0 _ rfl
  have bO14_1 : BoxAt X15 O14 1 (.int .i64 0) := hbx 1 _ rfl
  have bO14_2 : BoxAt X15 O14 2 (.int .i64 0) := hbx 2 _ rfl
  have bO14_3 : BoxAt X15 O14 3 (.int .i64 0) := hbx 3 _ rfl
  have bO14_4 : BoxAt X15 O14 4 (.int .i64 0) := hbx 4 _ rfl
  have bO14_5 : BoxAt X15 O14 5 (.int .i64 0) := hbx 5 _ rfl
  have bO14_6 : BoxAt X15 O14 6 (.int .i64 0) := hbx 6 _ rfl
  clear hbx
  replace hE := hE.trans hb
  replace hX9 := hX9.trans hb
  have hs16 := hb.size
  clear hb
  have lt17 := bO14_0.lt
  refine pl_put rfl (by kernel_rfl) (by kernel_rfl) (sn_setK7 (O := O14) (j := 0) (v0 := .int .i64 (o.p : Int)) (v1 := .int .i64 (o.f : Int)) (v2 := .int .i64 (o.lo : Int)) (v3 := .int .i64 (o.hi : Int)) (v4 := .int .i64 (o.nd : Int)) (v5 := .int .i64 (o.tn : Int)) (v6 := .int .i64 (o.sl : Int)) (ex_store (p := .pointer (some ⟨O14, 0, none⟩)) (v := .agg #[.int .i64 (o.p : Int), .int .i64 (o.f : Int), .int .i64 (o.lo : Int), .int .i64 (o.hi : Int), .int .i64 (o.nd : Int), .int .i64 (o.tn : Int), .int .i64 (o.sl : Int)]) rfl (by kernel_rfl) (by kernel_rfl) (st24 bO14_0.1 bO14_0.2 bO14_1.1 bO14_1.2 bO14_2.1 bO14_2.2 bO14_3.1 bO14_3.2 bO14_4.1 bO14_4.2 bO14_5.1 bO14_5.2 bO14_6.1 bO14_6.2)) bO14_0 bO14_1 bO14_2 bO14_3 bO14_4 bO14_5 bO14_6 ?_)
  intro X18 ho hv0 hv1 hv2 hv3 hv4 hv5 hv6 hk
  replace hE := ho.ext hE (Nat.le_trans (Nat.le_trans hs3 (Nat.le_trans hs7 (Nat.le_trans hs11 hs13))) (Nat.le_of_eq hzO14))
  replace hX9 := ho.ext hX9 (Nat.le_trans (Nat.le_trans hs11 hs13) (Nat.le_of_eq hzO14))
  have hs19 : X15.heap.size ≤ X18.heap.size := Nat.le_of_eq ho.size.symm
  clear ho hk bO14_0 bO14_1 bO14_2 bO14_3 bO14_4 bO14_5 bO14_6
  have bO14_0 := hv0; clear hv0
  have bO14_1 := hv1; clear hv1
  have bO14_2 := hv2; clear hv2
  have bO14_3 := hv3; clear hv3
  have bO14_4 := hv4; clear hv4
  have bO14_5 := hv5; clear hv5
  have bO14_6 := hv6; clear hv6
  refine pl_nil ?_
  refine qw_then ?_
  refine cw_seq ?_
  have hX20 : Ext X18 X18 := Ext.refl _
  refine cw_join (fun ws' Y => ∃ pk25 : Nat, ∃ s : Int × Int, ∃ O29 : Nat, ws' = [(2, .int .i64 (lk : Int)), (3, .int .i64 (ka : Int)), (9, .bool true), (10, .pointer (some ⟨O14, 0, none⟩)), (11, .pointer (some ⟨O29, 0, none⟩))] ∧ Ext w Y ∧ Ext X18 Y ∧ pk25 < 29 ∧ Swath.spB s 30 = true ∧ s.1 ≤ 2999 ∧ s.2 = s.1 + 1 + (((1 + pk25 : Nat) : Int)) ∧ BoxAt Y O29 0 (.int .i64 (s.1 : Int)) ∧ BoxAt Y O29 1 (.int .i64 (s.2 : Int)) ∧ X18.heap.size ≤ Y.heap.size ∧ X18.heap.size ≤ O29) (fun hJ => ?_) ?_
  ·
    refine cw_draw [(some 27, [5], []), (some 28, [27], [0]), (some 29, [5], []), (some 30, [29], [2]), (some 31, [30], [3]), (some 32, [31], [4]), (some 33, [28, 32], [1, 5]), (some 34, [33], [6, 4]), (some 11, [], []), (none, [11, 34], [8, 7, 7, 0, 1, 2, 3, 4, 5, 6, 7, 8])] (fun w' => w'.cell? ⟨O5, 0, none⟩ = some (.int .i64 (y0 : Int)) ∧ w'.cell? ⟨O5, 1, none⟩ = some (.int .i64 (y1 : Int))) (by kernel_rfl) (by kernel_rfl) (by kernel_rfl) (by kernel_rfl) ((calm_then calm_body)) (⟨(BoxAt.ext (hX9.trans hX20) bO5_0).1, (BoxAt.ext (hX9.trans hX20) bO5_1).1⟩) (fun ops Q X21 hb hL hR hK => ?_)
    replace hE := hE.trans hb
    replace hX20 := hX20.trans hb
    have hs22 := hb.size
    clear hb
    have hS23 := And.intro ((BoxAt.ext (hX9.trans hX20) bO5_0).1) ((BoxAt.ext (hX9.trans hX20) bO5_1).1)
    refine wd_take 0 (.pointer (some ⟨O5, 0, none⟩)) hR rfl (by kernel_rfl) rfl (by kernel_rfl) (fun w _ => by kernel_rfl) (hS23) ?_
    refine wd_take 1 (.int .i64 (y0 : Int)) hR rfl (by kernel_rfl) rfl (by kernel_rfl) (fun w hS => ex_load rfl (by kernel_rfl) (ld3 (hS.1))) (hS23) ?_
    refine wd_take 2 (.pointer (some ⟨O5, 1, none⟩)) hR rfl (by kernel_rfl) rfl (by kernel_rfl) (fun w _ => by kernel_rfl) (hS23) ?_
    refine wd_take 3 (.int .i64 (y1 : Int)) hR rfl (by kernel_rfl) rfl (by kernel_rfl) (fun w hS => ex_load rfl (by kernel_rfl) (ld3 (hS.2))) (hS23) ?_
    refine wd_two 4 8 hR rfl rfl (by kernel_rfl) (by kernel_rfl) (by kernel_rfl) (by kernel_rfl) ?_ ?_
    ·
      refine sn_call (f := 13) (args := #[.int .i64 (y1 : Int), .int .i64 29]) (by kernel_rfl) ((pickL_n _ (29) _ iy1 (by omega) (by omega)).mono ?_)
      rintro e w' ⟨pk25, rfl, pk25l, -, rfl⟩
      refine ⟨_, rfl, hS23, ?_⟩
      refine wd_take 5 (.int .i64 (((1 + pk25 : Nat) : Int) : Int)) hR rfl (by kernel_rfl) rfl (by kernel_rfl) (fun w _ => ev_wrap (by kernel_rfl) (by omega) (by omega)) (hS23) ?_
      refine wd_take 6 (.agg #[.int .i64 (y0 : Int), .int .i64 (((1 + pk25 : Nat) : Int) : Int)]) hR rfl (by kernel_rfl) rfl (by kernel_rfl) (fun w _ => by kernel_rfl) (hS23) ?_
      refine wd_two 7 8 hR rfl rfl (by kernel_rfl) (by kernel_rfl) (by kernel_rfl) (by kernel_rfl) ?_ ?_
      ·
        refine sn_call (f := 12) (args := #[.agg #[.int .i64 (y0 : Int), .int .i64 (((1 + pk25 : Nat) : Int) : Int)]]) (by kernel_rfl) ((Shot2_c _ (((1 + pk25 : Nat) : Int)) _ iy0 (by omega) (by omega)).mono ?_)
        rintro e w26 ⟨s, rfl, hsp30, hsp1, hsp2, hb⟩
        replace hE := hE.trans hb
        replace hX20 := hX20.trans hb
        have hs27 := hb.size
        clear hb
        have q2 := Swath.spB_t.1 hsp30
        have hS28 := And.intro ((BoxAt.ext (hX9.trans hX20) bO5_0).1) ((BoxAt.ext (hX9.trans hX20) bO5_1).1)
        refine ⟨_, rfl, hS28, ?_⟩
        refine wd_step 8 hR rfl (by kernel_rfl) (by kernel_rfl) (by kernel_rfl) (sn_new (us := #[.int .i64 0, .int .i64 0]) (t := 26) (by kernel_rfl) ?_)
        intro O29 X30 hO hOs hb hbx
        have hzO29 := hO; have hyO29 := hOs; clear hO hOs
        have bO29_0 : BoxAt X30 O29 0 (.int .i64 0) := hbx 0 _ rfl
        have bO29_1 : BoxAt X30 O29 1 (.int .i64 0) := hbx 1 _ rfl
        clear hbx
        replace hE := hE.trans hb
        replace hX20 := hX20.trans hb
        have hs31 := hb.size
        clear hb
        have lt32 := bO29_0.lt
        have hS33 := And.intro ((BoxAt.ext (hX9.trans hX20) bO5_0).1) ((BoxAt.ext (hX9.trans hX20) bO5_1).1)
        refine ⟨hS33, ?_⟩
        refine wd_step 9 hR rfl (by kernel_rfl) (by kernel_rfl) (by kernel_rfl) (sn_set2 (O := O29) (j := 0) (v := .int .i64 (s.1 : Int)) (v' := .int .i64 (s.2 : Int)) (ex_store (p := .pointer (some ⟨O29, 0, none⟩)) (v := .agg #[.int .i64 (s.1 : Int), .int .i64 (s.2 : Int)]) rfl (by kernel_rfl) (by kernel_rfl) (st26 bO29_0.1 bO29_0.2 bO29_1.1 bO29_1.2)) bO29_0 bO29_1 ?_)
        intro X34 ho hv0 hv1 hk
        replace hE := ho.ext hE (Nat.le_trans (Nat.le_trans hs3 (Nat.le_trans hs7 (Nat.le_trans hs11 (Nat.le_trans hs13 (Nat.le_trans hs16 (Nat.le_trans hs19 (Nat.le_trans hs22 hs27))))))) (Nat.le_of_eq hzO29))
        replace hX20 := ho.ext hX20 (Nat.le_trans (Nat.le_trans hs22 hs27) (Nat.le_of_eq hzO29))
        have hs35 : X30.heap.size ≤ X34.heap.size := Nat.le_of_eq ho.size.symm
        clear ho hk bO29_0 bO29_1
        have bO29_0 := hv0; clear hv0
        have bO29_1 := hv1; clear hv1
        have hS36 := And.intro ((BoxAt.ext (hX9.trans hX20) bO5_0).1) ((BoxAt.ext (hX9.trans hX20) bO5_1).1)
        refine ⟨hS36, ?_⟩
        refine wd_end hL hR hK (by kernel_rfl) ?_
        exact qw_leaf hJ [2, 3, 9, 10, 11] (ws' := [(2, .int .i64 (lk : Int)), (3, .int .i64 (ka : Int)), (9, .bool true), (10, .pointer (some ⟨O14, 0, none⟩)), (11, .pointer (some ⟨O29, 0, none⟩))]) (by kernel_rfl) ⟨pk25, s, O29, rfl, hE, hX20, pk25l, hsp30, hsp1, hsp2, bO29_0, bO29_1, (Nat.le_trans hs22 (Nat.le_trans hs27 (Nat.le_trans hs31 hs35))), (Nat.le_trans (Nat.le_trans hs22 hs27) (Nat.le_of_eq hzO29))⟩
      ·
        refine sn_new (us := #[.int .i64 0, .int .i64 0]) (t := 26) (by kernel_rfl) ?_
        intro O37 X38 hO hOs hb hbx
        have hzO37 := hO; have hyO37 := hOs; clear hO hOs
        have bO37_0 : BoxAt X38 O37 0 (.int .i64 0) := hbx 0 _ rfl
        have bO37_1 : BoxAt X38 O37 1 (.int .i64 0) := hbx 1 _ rfl
        clear hbx
        replace hE := hE.trans hb
        replace hX20 := hX20.trans hb
        have hs39 := hb.size
        clear hb
        have lt40 := bO37_0.lt
        have hS41 := And.intro ((BoxAt.ext (hX9.trans hX20) bO5_0).1) ((BoxAt.ext (hX9.trans hX20) bO5_1).1)
        refine ⟨hS41, ?_⟩
        refine wd_step 7 hR rfl (by kernel_rfl) (by kernel_rfl) (by kernel_rfl) (sn_call (f := 12) (args := #[.agg #[.int .i64 (y0 : Int), .int .i64 (((1 + pk25 : Nat) : Int) : Int)]]) (by kernel_rfl) ((Shot2_c _ (((1 + pk25 : Nat) : Int)) _ iy0 (by omega) (by omega)).mono ?_))
        rintro e w42 ⟨s, rfl, hsp30, hsp1, hsp2, hb⟩
        replace hE := hE.trans hb
        replace hX20 := hX20.trans hb
        replace bO37_0 := BoxAt.ext hb bO37_0
        replace bO37_1 := BoxAt.ext hb bO37_1
        have hs43 := hb.size
        clear hb
        have q2 := Swath.spB_t.1 hsp30
        have hS44 := And.intro ((BoxAt.ext (hX9.trans hX20) bO5_0).1) ((BoxAt.ext (hX9.trans hX20) bO5_1).1)
        refine ⟨_, rfl, hS44, ?_⟩
        refine wd_step 9 hR rfl (by kernel_rfl) (by kernel_rfl) (by kernel_rfl) (sn_set2 (O := O37) (j := 0) (v := .int .i64 (s.1 : Int)) (v' := .int .i64 (s.2 : Int)) (ex_store (p := .pointer (some ⟨O37, 0, none⟩)) (v := .agg #[.int .i64 (s.1 : Int), .int .i64 (s.2 : Int)]) rfl (by kernel_rfl) (by kernel_rfl) (st26 bO37_0.1 bO37_0.2 bO37_1.1 bO37_1.2)) bO37_0 bO37_1 ?_)
        intro X45 ho hv0 hv1 hk
        replace hE := ho.ext hE (Nat.le_trans (Nat.le_trans hs3 (Nat.le_trans hs7 (Nat.le_trans hs11 (Nat.le_trans hs13 (Nat.le_trans hs16 (Nat.le_trans hs19 hs22)))))) (Nat.le_of_eq hzO37))
        replace hX20 := ho.ext hX20 (Nat.le_trans hs22 (Nat.le_of_eq hzO37))
        have hs46 : w42.heap.size ≤ X45.heap.size := Nat.le_of_eq ho.size.symm
        clear ho hk bO37_0 bO37_1
        have bO37_0 := hv0; clear hv0
        have bO37_1 := hv1; clear hv1
        have hS47 := And.intro ((BoxAt.ext (hX9.trans hX20) bO5_0).1) ((BoxAt.ext (hX9.trans hX20) bO5_1).1)
        refine ⟨hS47, ?_⟩
        refine wd_end hL hR hK (by kernel_rfl) ?_
        exact qw_leaf hJ [2, 3, 9, 10, 11] (ws' := [(2, .int .i64 (lk : Int)), (3, .int .i64 (ka : Int)), (9, .bool true), (10, .pointer (some ⟨O14, 0, none⟩)), (11, .pointer (some ⟨O37, 0, none⟩))]) (by kernel_rfl) ⟨pk25, s, O37, rfl, hE, hX20, pk25l, hsp30, hsp1, hsp2, bO37_0, bO37_1, (Nat.le_trans hs22 (Nat.le_trans hs39 (Nat.le_trans hs43 hs46))), (Nat.le_trans hs22 (Nat.le_of_eq hzO37))⟩
    ·
      refine sn_new (us := #[.int .i64 0, .int .i64 0]) (t := 26) (by kernel_rfl) ?_
      intro O48 X49 hO hOs hb hbx
      have hzO48 := hO; have hyO48 := hOs; clear hO hOs
      have bO48_0 : BoxAt X49 O48 0 (.int .i64 0) := hbx 0 _ rfl
      have bO48_1 : BoxAt X49 O48 1 (.int .i64 0) := hbx 1 _ rfl
      clear hbx
      replace hE := hE.trans hb
      replace hX20 := hX20.trans hb
      have hs50 := hb.size
      clear hb
      have lt51 := bO48_0.lt
      have hS52 := And.intro ((BoxAt.ext (hX9.trans hX20) bO5_0).1) ((BoxAt.ext (hX9.trans hX20) bO5_1).1)
      refine ⟨hS52, ?_⟩
      refine wd_step 4 hR rfl (by kernel_rfl) (by kernel_rfl) (by kernel_rfl) (sn_call (f := 13) (args := #[.int .i64 (y1 : Int), .int .i64 29]) (by kernel_rfl) ((pickL_n _ (29) _ iy1 (by omega) (by omega)).mono ?_))
      rintro e w' ⟨pk54, rfl, pk54l, -, rfl⟩
      refine ⟨_, rfl, hS52, ?_⟩
      refine wd_take 5 (.int .i64 (((1 + pk54 : Nat) : Int) : Int)) hR rfl (by kernel_rfl) rfl (by kernel_rfl) (fun w _ => ev_wrap (by kernel_rfl) (by omega) (by omega)) (hS52) ?_
      refine wd_take 6 (.agg #[.int .i64 (y0 : Int), .int .i64 (((1 + pk54 : Nat) : Int) : Int)]) hR rfl (by kernel_rfl) rfl (by kernel_rfl) (fun w _ => by kernel_rfl) (hS52) ?_
      refine wd_step 7 hR rfl (by kernel_rfl) (by kernel_rfl) (by kernel_rfl) (sn_call (f := 12) (args := #[.agg #[.int .i64 (y0 : Int), .int .i64 (((1 + pk54 : Nat) : Int) : Int)]]) (by kernel_rfl) ((Shot2_c _ (((1 + pk54 : Nat) : Int)) _ iy0 (by omega) (by omega)).mono ?_))
      rintro e w55 ⟨s, rfl, hsp30, hsp1, hsp2, hb⟩
      replace hE := hE.trans hb
      replace hX20 := hX20.trans hb
      replace bO48_0 := BoxAt.ext hb bO48_0
      replace bO48_1 := BoxAt.ext hb bO48_1
      have hs56 := hb.size
      clear hb
      have q2 := Swath.spB_t.1 hsp30
      have hS57 := And.intro ((BoxAt.ext (hX9.trans hX20) bO5_0).1) ((BoxAt.ext (hX9.trans hX20) bO5_1).1)
      refine ⟨_, rfl, hS57, ?_⟩
      refine wd_step 9 hR rfl (by kernel_rfl) (by kernel_rfl) (by kernel_rfl) (sn_set2 (O := O48) (j := 0) (v := .int .i64 (s.1 : Int)) (v' := .int .i64 (s.2 : Int)) (ex_store (p := .pointer (some ⟨O48, 0, none⟩)) (v := .agg #[.int .i64 (s.1 : Int), .int .i64 (s.2 : Int)]) rfl (by kernel_rfl) (by kernel_rfl) (st26 bO48_0.1 bO48_0.2 bO48_1.1 bO48_1.2)) bO48_0 bO48_1 ?_)
      intro X58 ho hv0 hv1 hk
      replace hE := ho.ext hE (Nat.le_trans (Nat.le_trans hs3 (Nat.le_trans hs7 (Nat.le_trans hs11 (Nat.le_trans hs13 (Nat.le_trans hs16 (Nat.le_trans hs19 hs22)))))) (Nat.le_of_eq hzO48))
      replace hX20 := ho.ext hX20 (Nat.le_trans hs22 (Nat.le_of_eq hzO48))
      have hs59 : w55.heap.size ≤ X58.heap.size := Nat.le_of_eq ho.size.symm
      clear ho hk bO48_0 bO48_1
      have bO48_0 := hv0; clear hv0
      have bO48_1 := hv1; clear hv1
      have hS60 := And.intro ((BoxAt.ext (hX9.trans hX20) bO5_0).1) ((BoxAt.ext (hX9.trans hX20) bO5_1).1)
      refine ⟨hS60, ?_⟩
      refine wd_end hL hR hK (by kernel_rfl) ?_
      exact qw_leaf hJ [2, 3, 9, 10, 11] (ws' := [(2, .int .i64 (lk : Int)), (3, .int .i64 (ka : Int)), (9, .bool true), (10, .pointer (some ⟨O14, 0, none⟩)), (11, .pointer (some ⟨O48, 0, none⟩))]) (by kernel_rfl) ⟨pk54, s, O48, rfl, hE, hX20, pk54l, hsp30, hsp1, hsp2, bO48_0, bO48_1, (Nat.le_trans hs22 (Nat.le_trans hs50 (Nat.le_trans hs56 hs59))), (Nat.le_trans hs22 (Nat.le_of_eq hzO48))⟩
  ·
    clear hE hX20
    rintro L ws Y61 ⟨pk25, s, O29, rfl, hE, hX20, pk25l, hsp30, hsp1, hsp2, bO29_0, bO29_1, hn62, hn63⟩
    have lt64 := bO29_0.lt
    refine qw_then ?_
    refine cw_seq ?_
    have q2 := Swath.spB_t.1 hsp30
    refine cw_plain ?_
    refine pl_take (.int .i64 (lk : Int)) rfl (by kernel_rfl) (by kernel_rfl) (by kernel_rfl) (by kernel_rfl) ?_
    refine pl_step rfl (by kernel_rfl) (by kernel_rfl) (by kernel_rfl) (sn_call (f := 13) (args := #[.int .i64 (lk : Int), .int .i64 9]) (by kernel_rfl) ((pickL_n _ (9) _ ilk (by omega) (by omega)).mono ?_))
    rintro e w' ⟨pk66, rfl, pk66l, -, rfl⟩
    refine ⟨_, rfl, ?_⟩
    refine pl_take (.int .i64 ((((pk66 : Nat) : Int)) - 4 : Int)) rfl (by kernel_rfl) (by kernel_rfl) (by kernel_rfl) (ev_wrap (by kernel_rfl) (by omega) (by omega)) ?_
    refine pl_take (.int .i64 ((((pk66 : Nat) : Int)) - 4 : Int)) rfl (by kernel_rfl) (by kernel_rfl) (by kernel_rfl) (by kernel_rfl) ?_
    refine pl_nil ?_
    refine qw_then ?_
    refine cw_seq ?_
    refine cw_draw [(some 38, [11], []), (some 39, [38], [0]), (some 40, [39], [1]), (some 41, [3], []), (some 42, [11], []), (some 43, [42], [4]), (some 44, [11], []), (some 45, [44], [6]), (some 46, [43, 45], [5, 7]), (some 47, [46], [8]), (some 48, [41, 47], [3, 9]), (some 49, [40, 48], [2, 10]), (some 13, [49], [11, 10, 0, 1, 2, 3, 4, 5, 6, 7, 8, 9, 10, 11])] (fun w' => w'.cell? ⟨O29, 0, none⟩ = some (.int .i64 (s.1 : Int)) ∧ w'.cell? ⟨O29, 1, none⟩ = some (.int .i64 (s.2 : Int))) (by kernel_rfl) (by kernel_rfl) (by kernel_rfl) (by kernel_rfl) ((calm_then calm_body)) (⟨bO29_0.1, bO29_1.1⟩) (fun ops Q X67 hb hL hR hK => ?_)
    replace hE := hE.trans hb
    replace hX20 := hX20.trans hb
    replace bO29_0 := BoxAt.ext hb bO29_0
    replace bO29_1 := BoxAt.ext hb bO29_1
    have hs68 := hb.size
    clear hb
    refine wd_take 0 (.pointer (some ⟨O29, 0, none⟩)) hR rfl (by kernel_rfl) rfl (by kernel_rfl) (fun w _ => by kernel_rfl) (⟨bO29_0.1, bO29_1.1⟩) ?_
    refine wd_take 1 (.int .i64 (s.1 : Int)) hR rfl (by kernel_rfl) rfl (by kernel_rfl) (fun w hS => ex_load rfl (by kernel_rfl) (ld3 (hS.1))) (⟨bO29_0.1, bO29_1.1⟩) ?_
    refine wd_take 2 (.int .i64 (s.1 + 1 : Int)) hR rfl (by kernel_rfl) rfl (by kernel_rfl) (fun w _ => ev_wrap (by kernel_rfl) (by omega) (by omega)) (⟨bO29_0.1, bO29_1.1⟩) ?_
    refine wd_take 3 (.int .i64 (ka : Int)) hR rfl (by kernel_rfl) rfl (by kernel_rfl) (fun w _ => by kernel_rfl) (⟨bO29_0.1, bO29_1.1⟩) ?_
    refine wd_take 4 (.pointer (some ⟨O29, 1, none⟩)) hR rfl (by kernel_rfl) rfl (by kernel_rfl) (fun w _ => by kernel_rfl) (⟨bO29_0.1, bO29_1.1⟩) ?_
    refine wd_take 5 (.int .i64 (s.2 : Int)) hR rfl (by kernel_rfl) rfl (by kernel_rfl) (fun w hS => ex_load rfl (by kernel_rfl) (ld3 (hS.2))) (⟨bO29_0.1, bO29_1.1⟩) ?_
    refine wd_take 6 (.pointer (some ⟨O29, 0, none⟩)) hR rfl (by kernel_rfl) rfl (by kernel_rfl) (fun w _ => by kernel_rfl) (⟨bO29_0.1, bO29_1.1⟩) ?_
    refine wd_take 7 (.int .i64 (s.1 : Int)) hR rfl (by kernel_rfl) rfl (by kernel_rfl) (fun w hS => ex_load rfl (by kernel_rfl) (ld3 (hS.1))) (⟨bO29_0.1, bO29_1.1⟩) ?_
    refine wd_take 8 (.int .i64 (s.2 - s.1 : Int)) hR rfl (by kernel_rfl) rfl (by kernel_rfl) (fun w _ => ev_wrap (by kernel_rfl) (by omega) (by omega)) (⟨bO29_0.1, bO29_1.1⟩) ?_
    refine wd_take 9 (.int .i64 ((s.2 - s.1) - 1 : Int)) hR rfl (by kernel_rfl) rfl (by kernel_rfl) (fun w _ => ev_wrap (by kernel_rfl) (by omega) (by omega)) (⟨bO29_0.1, bO29_1.1⟩) ?_
    refine wd_step 10 hR rfl (by kernel_rfl) (by kernel_rfl) (by kernel_rfl) (sn_call (f := 13) (args := #[.int .i64 (ka : Int), .int .i64 ((s.2 - s.1) - 1 : Int)]) (by kernel_rfl) ((pickL_i _ ((s.2 - s.1) - 1) _ ika (by omega) (by omega)).mono ?_))
    rintro e w' ⟨pk69, rfl, pk69l, pk69u, rfl⟩
    refine ⟨_, rfl, ⟨bO29_0.1, bO29_1.1⟩, ?_⟩
    refine wd_take 11 (.int .i64 ((s.1 + 1) + pk69 : Int)) hR rfl (by kernel_rfl) rfl (by kernel_rfl) (fun w _ => ev_wrap (by kernel_rfl) (by omega) (by omega)) (⟨bO29_0.1, bO29_1.1⟩) ?_
    refine wd_take 12 (.int .i64 ((s.1 + 1) + pk69 : Int)) hR rfl (by kernel_rfl) rfl (by kernel_rfl) (fun w _ => by kernel_rfl) (⟨bO29_0.1, bO29_1.1⟩) ?_
    refine wd_end hL hR hK (by kernel_rfl) ?_
    refine qw_then ?_
    refine cw_clean [9, 10, 11, 12, 13] (ws' := [(9, .bool true), (10, .pointer (some ⟨O14, 0, none⟩)), (11, .pointer (some ⟨O29, 0, none⟩)), (12, .int .i64 ((((pk66 : Nat) : Int)) - 4 : Int)), (13, .int .i64 ((s.1 + 1) + pk69 : Int))]) (by kernel_rfl) (fun L => ?_)
    refine cw_seq ?_
    refine cw_plain ?_
    refine pl_take (.agg #[.int .i64 (o.p : Int), .int .i64 (o.f : Int), .int .i64 (o.lo : Int), .int .i64 (o.hi : Int), .int .i64 (o.nd : Int), .int .i64 (o.tn : Int), .int .i64 (o.sl : Int)]) rfl (by kernel_rfl) (by kernel_rfl) (by kernel_rfl) (ex_load rfl (by kernel_rfl) (ld24 ((BoxAt.ext hX20 bO14_0).1) ((BoxAt.ext hX20 bO14_1).1) ((BoxAt.ext hX20 bO14_2).1) ((BoxAt.ext hX20 bO14_3).1) ((BoxAt.ext hX20 bO14_4).1) ((BoxAt.ext hX20 bO14_5).1) ((BoxAt.ext hX20 bO14_6).1))) ?_
    refine pl_take (.pointer (some ⟨O29, 0, none⟩)) rfl (by kernel_rfl) (by kernel_rfl) (by kernel_rfl) (by kernel_rfl) ?_
    refine pl_take (.int .i64 (s.1 : Int)) rfl (by kernel_rfl) (by kernel_rfl) (by kernel_rfl) (ex_load rfl (by kernel_rfl) (ld3 (bO29_0.1))) ?_
    refine pl_take (.int .i64 ((s.1 + 1) + pk69 : Int)) rfl (by kernel_rfl) (by kernel_rfl) (by kernel_rfl) (by kernel_rfl) ?_
    refine pl_take (.agg #[.int .i64 (s.1 : Int), .int .i64 ((s.1 + 1) + pk69 : Int)]) rfl (by kernel_rfl) (by kernel_rfl) (by kernel_rfl) (by kernel_rfl) ?_
    refine pl_take (.int .i64 ((((pk66 : Nat) : Int)) - 4 : Int)) rfl (by kernel_rfl) (by kernel_rfl) (by kernel_rfl) (by kernel_rfl) ?_
    refine pl_step rfl (by kernel_rfl) (by kernel_rfl) (by kernel_rfl) (sn_call (f := 17) (args := #[.agg #[.int .i64 (o.p : Int), .int .i64 (o.f : Int), .int .i64 (o.lo : Int), .int .i64 (o.hi : Int), .int .i64 (o.nd : Int), .int .i64 (o.tn : Int), .int .i64 (o.sl : Int)], .agg #[.int .i64 (s.1 : Int), .int .i64 ((s.1 + 1) + pk69 : Int)], .int .i64 ((((pk66 : Nat) : Int)) - 4 : Int)]) (by kernel_rfl) ((Strip_y (o := o) (s := (s.1, (s.1 + 1) + pk69)) (lk := (((pk66 : Nat) : Int)) - 4) _ (Swath.shB_t.2 ⟨hok, ⟨by first | omega | (simp only []; omega), by first | omega | (simp only []; omega), by first | omega | (simp only []; omega), by first | omega | (simp only []; omega)⟩, by omega, by omega⟩)).mono ?_))
    rintro e w79 ⟨B70, g71, k72, k73, rfl, hn74, hn75, hne76, hr77, hr78, hb⟩
    replace hE := hE.trans hb
    replace hX20 := hX20.trans hb
    replace bO29_0 := BoxAt.ext hb bO29_0
    replace bO29_1 := BoxAt.ext hb bO29_1
    have hs80 := hb.size
    clear hb
    have lt81 := hr77.lt
    have lt82 := hr78.lt
    have hne76h := Lib.hid hne76
    refine ⟨_, rfl, ?_⟩
    refine pl_take (.tuple #[.agg #[.slice (some ⟨B70, 0, none⟩) 24 k72, .slice (some ⟨g71, 0, none⟩) 24 k73], .int .i64 0]) rfl (by kernel_rfl) (by kernel_rfl) (by kernel_rfl) (by kernel_rfl) ?_
    refine pl_take (.agg #[.slice (some ⟨B70, 0, none⟩) 24 k72, .slice (some ⟨g71, 0, none⟩) 24 k73]) rfl (by kernel_rfl) (by kernel_rfl) (by kernel_rfl) (by kernel_rfl) ?_
    refine pl_take (.int .i64 0) rfl (by kernel_rfl) (by kernel_rfl) (by kernel_rfl) (by kernel_rfl) ?_
    refine pl_step rfl (by kernel_rfl) (by kernel_rfl) (by kernel_rfl) (sn_new (us := #[.slice none 0 0, .slice none 0 0]) (t := 44) (by kernel_rfl) ?_)
    intro O83 X84 hO hOs hb hbx
    have hzO83 := hO; have hyO83 := hOs; clear hO hOs
    have bO83_0 : BoxAt X84 O83 0 (.slice none 0 0) := hbx 0 _ rfl
    have bO83_1 : BoxAt X84 O83 1 (.slice none 0 0) := hbx 1 _ rfl
    clear hbx
    replace hE := hE.trans hb
    replace hX20 := hX20.trans hb
    replace bO29_0 := BoxAt.ext hb bO29_0
    replace bO29_1 := BoxAt.ext hb bO29_1
    replace hr77 := hr77.ext hb
    replace hr78 := hr78.ext hb
    have hs85 := hb.size
    clear hb
    have lt86 := bO83_0.lt
    refine pl_put rfl (by kernel_rfl) (by kernel_rfl) (sn_set2 (O := O83) (j := 0) (v := .slice (some ⟨B70, 0, none⟩) 24 k72) (v' := .slice (some ⟨g71, 0, none⟩) 24 k73) (ex_store (p := .pointer (some ⟨O83, 0, none⟩)) (v := .agg #[.slice (some ⟨B70, 0, none⟩) 24 k72, .slice (some ⟨g71, 0, none⟩) 24 k73]) rfl (by kernel_rfl) (by kernel_rfl) (st44 bO83_0.1 bO83_0.2 bO83_1.1 bO83_1.2)) bO83_0 bO83_1 ?_)
    intro X87 ho hv0 hv1 hk
    replace hE := ho.ext hE (Nat.le_trans (Nat.le_trans hs3 (Nat.le_trans hs7 (Nat.le_trans hs11 (Nat.le_trans hs13 (Nat.le_trans hs16 (Nat.le_trans hs19 (Nat.le_trans hn62 (Nat.le_trans hs68 hs80)))))))) (Nat.le_of_eq hzO83))
    replace hX20 := ho.ext hX20 (Nat.le_trans (Nat.le_trans hn62 (Nat.le_trans hs68 hs80)) (Nat.le_of_eq hzO83))
    replace bO29_0 := ho.box (Nat.ne_of_gt (Nat.lt_of_lt_of_le lt64 (Nat.le_trans (Nat.le_trans hs68 hs80) (Nat.le_of_eq hzO83)))) bO29_0
    replace bO29_1 := ho.box (Nat.ne_of_gt (Nat.lt_of_lt_of_le lt64 (Nat.le_trans (Nat.le_trans hs68 hs80) (Nat.le_of_eq hzO83)))) bO29_1
    replace hr77 := ho.rows (Nat.ne_of_gt (Nat.lt_of_lt_of_le lt81 (Nat.le_of_eq hzO83))) hr77
    replace hr78 := ho.rows (Nat.ne_of_gt (Nat.lt_of_lt_of_le lt82 (Nat.le_of_eq hzO83))) hr78
    have hs88 : X84.heap.size ≤ X87.heap.size := Nat.le_of_eq ho.size.symm
    clear ho hk bO83_0 bO83_1
    have bO83_0 := hv0; clear hv0
    have bO83_1 := hv1; clear hv1
    refine pl_take (.int .i64 0) rfl (by kernel_rfl) (by kernel_rfl) (by kernel_rfl) (by kernel_rfl) ?_
    refine pl_nil ?_
    refine qw_then ?_
    refine cw_clean [9, 10, 11, 12, 13, 14, 15] (ws' := [(9, .bool true), (10, .pointer (some ⟨O14, 0, none⟩)), (11, .pointer (some ⟨O29, 0, none⟩)), (12, .int .i64 ((((pk66 : Nat) : Int)) - 4 : Int)), (13, .int .i64 ((s.1 + 1) + pk69 : Int)), (14, .pointer (some ⟨O83, 0, none⟩)), (15, .int .i64 0)]) (by kernel_rfl) (fun L => ?_)
    refine cw_seq ?_
    have hX89 : Ext X87 X87 := Ext.refl _
    refine cw_plain ?_
    refine pl_take (.agg #[.int .i64 (o.p : Int), .int .i64 (o.f : Int), .int .i64 (o.lo : Int), .int .i64 (o.hi : Int), .int .i64 (o.nd : Int), .int .i64 (o.tn : Int), .int .i64 (o.sl : Int)]) rfl (by kernel_rfl) (by kernel_rfl) (by kernel_rfl) (ex_load rfl (by kernel_rfl) (ld24 ((BoxAt.ext (hX20.trans hX89) bO14_0).1) ((BoxAt.ext (hX20.trans hX89) bO14_1).1) ((BoxAt.ext (hX20.trans hX89) bO14_2).1) ((BoxAt.ext (hX20.trans hX89) bO14_3).1) ((BoxAt.ext (hX20.trans hX89) bO14_4).1) ((BoxAt.ext (hX20.trans hX89) bO14_5).1) ((BoxAt.ext (hX20.trans hX89) bO14_6).1))) ?_
    refine pl_take (.int .i64 ((s.1 + 1) + pk69 : Int)) rfl (by kernel_rfl) (by kernel_rfl) (by kernel_rfl) (by kernel_rfl) ?_
    refine pl_take (.pointer (some ⟨O29, 1, none⟩)) rfl (by kernel_rfl) (by kernel_rfl) (by kernel_rfl) (by kernel_rfl) ?_
    refine pl_take (.int .i64 (s.2 : Int)) rfl (by kernel_rfl) (by kernel_rfl) (by kernel_rfl) (ex_load rfl (by kernel_rfl) (ld3 (bO29_1.1))) ?_
    refine pl_take (.agg #[.int .i64 ((s.1 + 1) + pk69 : Int), .int .i64 (s.2 : Int)]) rfl (by kernel_rfl) (by kernel_rfl) (by kernel_rfl) (by kernel_rfl) ?_
    refine pl_take (.int .i64 ((((pk66 : Nat) : Int)) - 4 : Int)) rfl (by kernel_rfl) (by kernel_rfl) (by kernel_rfl) (by kernel_rfl) ?_
    refine pl_step rfl (by kernel_rfl) (by kernel_rfl) (by kernel_rfl) (sn_call (f := 17) (args := #[.agg #[.int .i64 (o.p : Int), .int .i64 (o.f : Int), .int .i64 (o.lo : Int), .int .i64 (o.hi : Int), .int .i64 (o.nd : Int), .int .i64 (o.tn : Int), .int .i64 (o.sl : Int)], .agg #[.int .i64 ((s.1 + 1) + pk69 : Int), .int .i64 (s.2 : Int)], .int .i64 ((((pk66 : Nat) : Int)) - 4 : Int)]) (by kernel_rfl) ((Strip_y (o := o) (s := ((s.1 + 1) + pk69, s.2)) (lk := (((pk66 : Nat) : Int)) - 4) _ (Swath.shB_t.2 ⟨hok, ⟨by first | omega | (simp only []; omega), by first | omega | (simp only []; omega), by first | omega | (simp only []; omega), by first | omega | (simp only []; omega)⟩, by omega, by omega⟩)).mono ?_))
    rintro e w99 ⟨B90, g91, k92, k93, rfl, hn94, hn95, hne96, hr97, hr98, hb⟩
    replace hE := hE.trans hb
    replace hX89 := hX89.trans hb
    have hs100 := hb.size
    clear hb
    have lt101 := hr97.lt
    have lt102 := hr98.lt
    have hne96h := Lib.hid hne96
    refine ⟨_, rfl, ?_⟩
    refine pl_take (.tuple #[.agg #[.slice (some ⟨B90, 0, none⟩) 24 k92, .slice (some ⟨g91, 0, none⟩) 24 k93], .int .i64 0]) rfl (by kernel_rfl) (by kernel_rfl) (by kernel_rfl) (by kernel_rfl) ?_
    refine pl_take (.agg #[.slice (some ⟨B90, 0, none⟩) 24 k92, .slice (some ⟨g91, 0, none⟩) 24 k93]) rfl (by kernel_rfl) (by kernel_rfl) (by kernel_rfl) (by kernel_rfl) ?_
    refine pl_take (.int .i64 0) rfl (by kernel_rfl) (by kernel_rfl) (by kernel_rfl) (by kernel_rfl) ?_
    refine pl_step rfl (by kernel_rfl) (by kernel_rfl) (by kernel_rfl) (sn_new (us := #[.slice none 0 0, .slice none 0 0]) (t := 44) (by kernel_rfl) ?_)
    intro O103 X104 hO hOs hb hbx
    have hzO103 := hO; have hyO103 := hOs; clear hO hOs
    have bO103_0 : BoxAt X104 O103 0 (.slice none 0 0) := hbx 0 _ rfl
    have bO103_1 : BoxAt X104 O103 1 (.slice none 0 0) := hbx 1 _ rfl
    clear hbx
    replace hE := hE.trans hb
    replace hX89 := hX89.trans hb
    replace hr97 := hr97.ext hb
    replace hr98 := hr98.ext hb
    have hs105 := hb.size
    clear hb
    have lt106 := bO103_0.lt
    refine pl_put rfl (by kernel_rfl) (by kernel_rfl) (sn_set2 (O := O103) (j := 0) (v := .slice (some ⟨B90, 0, none⟩) 24 k92) (v' := .slice (some ⟨g91, 0, none⟩) 24 k93) (ex_store (p := .pointer (some ⟨O103, 0, none⟩)) (v := .agg #[.slice (some ⟨B90, 0, none⟩) 24 k92, .slice (some ⟨g91, 0, none⟩) 24 k93]) rfl (by kernel_rfl) (by kernel_rfl) (st44 bO103_0.1 bO103_0.2 bO103_1.1 bO103_1.2)) bO103_0 bO103_1 ?_)
    intro X107 ho hv0 hv1 hk
    replace hE := ho.ext hE (Nat.le_trans (Nat.le_trans hs3 (Nat.le_trans hs7 (Nat.le_trans hs11 (Nat.le_trans hs13 (Nat.le_trans hs16 (Nat.le_trans hs19 (Nat.le_trans hn62 (Nat.le_trans hs68 (Nat.le_trans hs80 (Nat.le_trans hs85 (Nat.le_trans hs88 hs100))))))))))) (Nat.le_of_eq hzO103))
    replace hX89 := ho.ext hX89 (Nat.le_trans hs100 (Nat.le_of_eq hzO103))
    replace hr97 := ho.rows (Nat.ne_of_gt (Nat.lt_of_lt_of_le lt101 (Nat.le_of_eq hzO103))) hr97
    replace hr98 := ho.rows (Nat.ne_of_gt (Nat.lt_of_lt_of_le lt102 (Nat.le_of_eq hzO103))) hr98
    have hs108 : X104.heap.size ≤ X107.heap.size := Nat.le_of_eq ho.size.symm
    clear ho hk bO103_0 bO103_1
    have bO103_0 := hv0; clear hv0
    have bO103_1 := hv1; clear hv1
    refine pl_take (.int .i64 0) rfl (by kernel_rfl) (by kernel_rfl) (by kernel_rfl) (by kernel_rfl) ?_
    refine pl_nil ?_
    refine qw_then ?_
    refine cw_clean [9, 10, 11, 12, 14, 15, 16, 17] (ws' := [(9, .bool true), (10, .pointer (some ⟨O14, 0, none⟩)), (11, .pointer (some ⟨O29, 0, none⟩)), (12, .int .i64 ((((pk66 : Nat) : Int)) - 4 : Int)), (14, .pointer (some ⟨O83, 0, none⟩)), (15, .int .i64 0), (16, .pointer (some ⟨O103, 0, none⟩)), (17, .int .i64 0)]) (by kernel_rfl) (fun L => ?_)
    refine cw_seq ?_
    have hX109 : Ext X107 X107 := Ext.refl _
    refine cw_plain ?_
    have hY110 := hX20.trans hX89
    refine pl_take (.agg #[.int .i64 (o.p : Int), .int .i64 (o.f : Int), .int .i64 (o.lo : Int), .int .i64 (o.hi : Int), .int .i64 (o.nd : Int), .int .i64 (o.tn : Int), .int .i64 (o.sl : Int)]) rfl (by kernel_rfl) (by kernel_rfl) (by kernel_rfl) (ex_load rfl (by kernel_rfl) (ld24 ((BoxAt.ext (hY110.trans hX109) bO14_0).1) ((BoxAt.ext (hY110.trans hX109) bO14_1).1) ((BoxAt.ext (hY110.trans hX109) bO14_2).1) ((BoxAt.ext (hY110.trans hX109) bO14_3).1) ((BoxAt.ext (hY110.trans hX109) bO14_4).1) ((BoxAt.ext (hY110.trans hX109) bO14_5).1) ((BoxAt.ext (hY110.trans hX109) bO14_6).1))) ?_
    refine pl_take (.agg #[.int .i64 (s.1 : Int), .int .i64 (s.2 : Int)]) rfl (by kernel_rfl) (by kernel_rfl) (by kernel_rfl) (ex_load rfl (by kernel_rfl) (ld26 ((BoxAt.ext (hX89.trans hX109) bO29_0).1) ((BoxAt.ext (hX89.trans hX109) bO29_1).1))) ?_
    refine pl_take (.int .i64 ((((pk66 : Nat) : Int)) - 4 : Int)) rfl (by kernel_rfl) (by kernel_rfl) (by kernel_rfl) (by kernel_rfl) ?_
    refine pl_step rfl (by kernel_rfl) (by kernel_rfl) (by kernel_rfl) (sn_call (f := 17) (args := #[.agg #[.int .i64 (o.p : Int), .int .i64 (o.f : Int), .int .i64 (o.lo : Int), .int .i64 (o.hi : Int), .int .i64 (o.nd : Int), .int .i64 (o.tn : Int), .int .i64 (o.sl : Int)], .agg #[.int .i64 (s.1 : Int), .int .i64 (s.2 : Int)], .int .i64 ((((pk66 : Nat) : Int)) - 4 : Int)]) (by kernel_rfl) ((Strip_y (o := o) (s := s) (lk := (((pk66 : Nat) : Int)) - 4) _ (Swath.shB_t.2 ⟨hok, ⟨by first | omega | (simp only []; omega), by first | omega | (simp only []; omega), by first | omega | (simp only []; omega), by first | omega | (simp only []; omega)⟩, by omega, by omega⟩)).mono ?_))
    rintro e w120 ⟨B111, g112, k113, k114, rfl, hn115, hn116, hne117, hr118, hr119, hb⟩
    replace hE := hE.trans hb
    replace hX109 := hX109.trans hb
    have hs121 := hb.size
    clear hb
    have lt122 := hr118.lt
    have lt123 := hr119.lt
    have hne117h := Lib.hid hne117
    refine ⟨_, rfl, ?_⟩
    refine pl_take (.tuple #[.agg #[.slice (some ⟨B111, 0, none⟩) 24 k113, .slice (some ⟨g112, 0, none⟩) 24 k114], .int .i64 0]) rfl (by kernel_rfl) (by kernel_rfl) (by kernel_rfl) (by kernel_rfl) ?_
    refine pl_take (.agg #[.slice (some ⟨B111, 0, none⟩) 24 k113, .slice (some ⟨g112, 0, none⟩) 24 k114]) rfl (by kernel_rfl) (by kernel_rfl) (by kernel_rfl) (by kernel_rfl) ?_
    refine pl_take (.int .i64 0) rfl (by kernel_rfl) (by kernel_rfl) (by kernel_rfl) (by kernel_rfl) ?_
    refine pl_step rfl (by kernel_rfl) (by kernel_rfl) (by kernel_rfl) (sn_new (us := #[.slice none 0 0, .slice none 0 0]) (t := 44) (by kernel_rfl) ?_)
    intro O124 X125 hO hOs hb hbx
    have hzO124 := hO; have hyO124 := hOs; clear hO hOs
    have bO124_0 : BoxAt X125 O124 0 (.slice none 0 0) := hbx 0 _ rfl
    have bO124_1 : BoxAt X125 O124 1 (.slice none 0 0) := hbx 1 _ rfl
    clear hbx
    replace hE := hE.trans hb
    replace hX109 := hX109.trans hb
    replace hr118 := hr118.ext hb
    replace hr119 := hr119.ext hb
    have hs126 := hb.size
    clear hb
    have lt127 := bO124_0.lt
    refine pl_put rfl (by kernel_rfl) (by kernel_rfl) (sn_set2 (O := O124) (j := 0) (v := .slice (some ⟨B111, 0, none⟩) 24 k113) (v' := .slice (some ⟨g112, 0, none⟩) 24 k114) (ex_store (p := .pointer (some ⟨O124, 0, none⟩)) (v := .agg #[.slice (some ⟨B111, 0, none⟩) 24 k113, .slice (some ⟨g112, 0, none⟩) 24 k114]) rfl (by kernel_rfl) (by kernel_rfl) (st44 bO124_0.1 bO124_0.2 bO124_1.1 bO124_1.2)) bO124_0 bO124_1 ?_)
    intro X128 ho hv0 hv1 hk
    replace hE := ho.ext hE (Nat.le_trans (Nat.le_trans hs3 (Nat.le_trans hs7 (Nat.le_trans hs11 (Nat.le_trans hs13 (Nat.le_trans hs16 (Nat.le_trans hs19 (Nat.le_trans hn62 (Nat.le_trans hs68 (Nat.le_trans hs80 (Nat.le_trans hs85 (Nat.le_trans hs88 (Nat.le_trans hs100 (Nat.le_trans hs105 (Nat.le_trans hs108 hs121)))))))))))))) (Nat.le_of_eq hzO124))
    replace hX109 := ho.ext hX109 (Nat.le_trans hs121 (Nat.le_of_eq hzO124))
    replace hr118 := ho.rows (Nat.ne_of_gt (Nat.lt_of_lt_of_le lt122 (Nat.le_of_eq hzO124))) hr118
    replace hr119 := ho.rows (Nat.ne_of_gt (Nat.lt_of_lt_of_le lt123 (Nat.le_of_eq hzO124))) hr119
    have hs129 : X125.heap.size ≤ X128.heap.size := Nat.le_of_eq ho.size.symm
    clear ho hk bO124_0 bO124_1
    have bO124_0 := hv0; clear hv0
    have bO124_1 := hv1; clear hv1
    refine pl_take (.int .i64 0) rfl (by kernel_rfl) (by kernel_rfl) (by kernel_rfl) (by kernel_rfl) ?_
    refine pl_nil ?_
    refine qw_then ?_
    refine cw_clean [9, 14, 15, 16, 17, 18, 19] (ws' := [(9, .bool true), (14, .pointer (some ⟨O83, 0, none⟩)), (15, .int .i64 0), (16, .pointer (some ⟨O103, 0, none⟩)), (17, .int .i64 0), (18, .pointer (some ⟨O124, 0, none⟩)), (19, .int .i64 0)]) (by kernel_rfl) (fun L => ?_)
    refine cw_seq ?_
    refine cw_seq ?_
    have hX130 : Ext X128 X128 := Ext.refl _
    refine cw_plain ?_
    refine pl_take (.int .i64 0) rfl (by kernel_rfl) (by kernel_rfl) (by kernel_rfl) (by kernel_rfl) ?_
    refine pl_take (.bool false) rfl (by kernel_rfl) (by kernel_rfl) (by kernel_rfl) (by kernel_rfl) ?_
    refine pl_take (.bool false) rfl (by kernel_rfl) (by kernel_rfl) (by kernel_rfl) (by kernel_rfl) ?_
    refine pl_take (.int .i64 0) rfl (by kernel_rfl) (by kernel_rfl) (by kernel_rfl) (by kernel_rfl) ?_
    refine pl_take (.bool false) rfl (by kernel_rfl) (by kernel_rfl) (by kernel_rfl) (by kernel_rfl) ?_
    refine pl_take (.bool false) rfl (by kernel_rfl) (by kernel_rfl) (by kernel_rfl) (by kernel_rfl) ?_
    refine pl_take (.bool false) rfl (by kernel_rfl) (by kernel_rfl) (by kernel_rfl) (by kernel_rfl) ?_
    refine pl_take (.int .i64 0) rfl (by kernel_rfl) (by kernel_rfl) (by kernel_rfl) (by kernel_rfl) ?_
    refine pl_take (.bool false) rfl (by kernel_rfl) (by kernel_rfl) (by kernel_rfl) (by kernel_rfl) ?_
    refine pl_take (.bool false) rfl (by kernel_rfl) (by kernel_rfl) (by kernel_rfl) (by kernel_rfl) ?_
    refine pl_nil ?_
    refine qw_then ?_
    refine cw_clean [9, 14, 16, 18, 86] (ws' := [(9, .bool true), (14, .pointer (some ⟨O83, 0, none⟩)), (16, .pointer (some ⟨O103, 0, none⟩)), (18, .pointer (some ⟨O124, 0, none⟩)), (86, .bool false)]) (by kernel_rfl) (fun L => ?_)
    refine cw_f (by kernel_rfl) ?_
    refine cw_skip ?_
    refine qw_then ?_
    refine cw_seq ?_
    refine cw_plain ?_
    refine pl_take (.pointer (some ⟨O83, 1, none⟩)) rfl (by kernel_rfl) (by kernel_rfl) (by kernel_rfl) (by kernel_rfl) ?_
    have hY131 := hX89.trans hX109
    refine pl_take (.agg #[.slice (some ⟨g71, 0, none⟩) 24 k73]) rfl (by kernel_rfl) (by kernel_rfl) (by kernel_rfl) (ex_load rfl (by kernel_rfl) (ld31 ((BoxAt.ext (hY131.trans hX130) bO83_1).1))) ?_
    refine pl_take (.pointer (some ⟨O103, 1, none⟩)) rfl (by kernel_rfl) (by kernel_rfl) (by kernel_rfl) (by kernel_rfl) ?_
    refine pl_take (.agg #[.slice (some ⟨g91, 0, none⟩) 24 k93]) rfl (by kernel_rfl) (by kernel_rfl) (by kernel_rfl) (ex_load rfl (by kernel_rfl) (ld31 ((BoxAt.ext (hX109.trans hX130) bO103_1).1))) ?_
    refine pl_step rfl (by kernel_rfl) (by kernel_rfl) (by kernel_rfl) (sn_call (f := 30) (args := #[.agg #[.slice (some ⟨g71, 0, none⟩) 24 k73], .agg #[.slice (some ⟨g91, 0, none⟩) 24 k93]]) (by kernel_rfl) ((Union_v _ _ _ (RowsAt.va (hr78.ext (hY131.trans hX130)) (Swath.can_valid hok _ _)) (Ext.refl _) (RowsAt.va (hr98.ext (hX109.trans hX130)) (Swath.can_valid hok _ _)) (Ext.refl _)).mono ?_))
    rintro e w137 ⟨B132, k133, rfl, hn134, hr135, hv136, hb⟩
    replace hE := hE.trans hb
    replace hX130 := hX130.trans hb
    have hs138 := hb.size
    clear hb
    have lt139 := hr135.lt
    clear hv136
    refine ⟨_, rfl, ?_⟩
    refine pl_take (.tuple #[.agg #[.slice (some ⟨B132, 0, none⟩) 24 k133], .int .i64 0]) rfl (by kernel_rfl) (by kernel_rfl) (by kernel_rfl) (by kernel_rfl) ?_
    refine pl_take (.agg #[.slice (some ⟨B132, 0, none⟩) 24 k133]) rfl (by kernel_rfl) (by kernel_rfl) (by kernel_rfl) (by kernel_rfl) ?_
    refine pl_take (.int .i64 0) rfl (by kernel_rfl) (by kernel_rfl) (by kernel_rfl) (by kernel_rfl) ?_
    refine pl_step rfl (by kernel_rfl) (by kernel_rfl) (by kernel_rfl) (sn_new (us := #[.slice none 0 0]) (t := 31) (by kernel_rfl) ?_)
    intro O140 X141 hO hOs hb hbx
    have hzO140 := hO; have hyO140 := hOs; clear hO hOs
    have bO140_0 : BoxAt X141 O140 0 (.slice none 0 0) := hbx 0 _ rfl
    clear hbx
    replace hE := hE.trans hb
    replace hX130 := hX130.trans hb
    replace hr135 := hr135.ext hb
    have hs142 := hb.size
    clear hb
    have lt143 := bO140_0.lt
    refine pl_put rfl (by kernel_rfl) (by kernel_rfl) (sn_set (O := O140) (j := 0) (v := .slice (some ⟨B132, 0, none⟩) 24 k133) (ex_store (p := .pointer (some ⟨O140, 0, none⟩)) (v := .agg #[.slice (some ⟨B132, 0, none⟩) 24 k133]) rfl (by kernel_rfl) (by kernel_rfl) (st31 bO140_0.1 bO140_0.2)) bO140_0 ?_)
    intro X144 ho hv0 hk
    replace hE := ho.ext hE (Nat.le_trans (Nat.le_trans hs3 (Nat.le_trans hs7 (Nat.le_trans hs11 (Nat.le_trans hs13 (Nat.le_trans hs16 (Nat.le_trans hs19 (Nat.le_trans hn62 (Nat.le_trans hs68 (Nat.le_trans hs80 (Nat.le_trans hs85 (Nat.le_trans hs88 (Nat.le_trans hs100 (Nat.le_trans hs105 (Nat.le_trans hs108 (Nat.le_trans hs121 (Nat.le_trans hs126 (Nat.le_trans hs129 hs138))))))))))))))))) (Nat.le_of_eq hzO140))
    replace hX130 := ho.ext hX130 (Nat.le_trans hs138 (Nat.le_of_eq hzO140))
    replace hr135 := ho.rows (Nat.ne_of_gt (Nat.lt_of_lt_of_le lt139 (Nat.le_of_eq hzO140))) hr135
    have hs145 : X141.heap.size ≤ X144.heap.size := Nat.le_of_eq ho.size.symm
    clear ho hk bO140_0
    have bO140_0 := hv0; clear hv0
    refine pl_take (.int .i64 0) rfl (by kernel_rfl) (by kernel_rfl) (by kernel_rfl) (by kernel_rfl) ?_
    refine pl_nil ?_
    refine qw_then ?_
    refine cw_clean [9, 14, 16, 18, 20, 21] (ws' := [(9, .bool true), (14, .pointer (some ⟨O83, 0, none⟩)), (16, .pointer (some ⟨O103, 0, none⟩)), (18, .pointer (some ⟨O124, 0, none⟩)), (20, .pointer (some ⟨O140, 0, none⟩)), (21, .int .i64 0)]) (by kernel_rfl) (fun L => ?_)
    refine cw_seq ?_
    refine cw_plain ?_
    refine pl_take (.bool true) rfl (by kernel_rfl) (by kernel_rfl) (by kernel_rfl) (by kernel_rfl) ?_
    refine pl_take (.bool true) rfl (by kernel_rfl) (by kernel_rfl) (by kernel_rfl) (by kernel_rfl) ?_
    refine pl_take (.int .i64 0) rfl (by kernel_rfl) (by kernel_rfl) (by kernel_rfl) (by kernel_rfl) ?_
    refine pl_take (.bool true) rfl (by kernel_rfl) (by kernel_rfl) (by kernel_rfl) (by kernel_rfl) ?_
    refine pl_take (.bool true) rfl (by kernel_rfl) (by kernel_rfl) (by kernel_rfl) (by kernel_rfl) ?_
    refine pl_take (.bool true) rfl (by kernel_rfl) (by kernel_rfl) (by kernel_rfl) (by kernel_rfl) ?_
    refine pl_take (.agg #[.slice (some ⟨B132, 0, none⟩) 24 k133]) rfl (by kernel_rfl) (by kernel_rfl) (by kernel_rfl) (ex_load rfl (by kernel_rfl) (ld31 (bO140_0.1))) ?_
    refine pl_take (.pointer (some ⟨O124, 1, none⟩)) rfl (by kernel_rfl) (by kernel_rfl) (by kernel_rfl) (by kernel_rfl) ?_
    refine pl_take (.agg #[.slice (some ⟨g112, 0, none⟩) 24 k114]) rfl (by kernel_rfl) (by kernel_rfl) (by kernel_rfl) (ex_load rfl (by kernel_rfl) (ld31 ((BoxAt.ext hX130 bO124_1).1))) ?_
    refine pl_step rfl (by kernel_rfl) (by kernel_rfl) (by kernel_rfl) (sn_call (f := 16) (args := #[.agg #[.slice (some ⟨B132, 0, none⟩) 24 k133], .agg #[.slice (some ⟨g112, 0, none⟩) 24 k114]]) (by kernel_rfl) ((rSame_v (r := true) _ _ _ (RowsAt.va hr135 (Globe.union_valid (Swath.can_valid hok _ _) (Swath.can_valid hok _ _))) (RowsAt.va (hr119.ext hX130) (Swath.can_valid hok _ _)) (decide_eq_true (Swath.longer_can (f := s.1) (t := s.2) hok (by omega) (by omega)))).mono ?_))
    rintro e w146 ⟨rfl, hb⟩
    replace hE := hE.trans hb
    replace hX130 := hX130.trans hb
    replace hr135 := hr135.ext hb
    replace bO140_0 := BoxAt.ext hb bO140_0
    have hs147 := hb.size
    clear hb
    refine ⟨_, rfl, ?_⟩
    refine pl_take (.bool true) rfl (by kernel_rfl) (by kernel_rfl) (by kernel_rfl) (by kernel_rfl) ?_
    refine pl_take (.bool true) rfl (by kernel_rfl) (by kernel_rfl) (by kernel_rfl) (by kernel_rfl) ?_
    refine pl_take (.pointer (some ⟨O124, 0, none⟩)) rfl (by kernel_rfl) (by kernel_rfl) (by kernel_rfl) (by kernel_rfl) ?_
    refine pl_take (.agg #[.slice (some ⟨B111, 0, none⟩) 24 k113]) rfl (by kernel_rfl) (by kernel_rfl) (by kernel_rfl) (ex_load rfl (by kernel_rfl) (ld31 ((BoxAt.ext hX130 bO124_0).1))) ?_
    refine pl_take (.pointer (some ⟨O83, 0, none⟩)) rfl (by kernel_rfl) (by kernel_rfl) (by kernel_rfl) (by kernel_rfl) ?_
    refine pl_take (.agg #[.slice (some ⟨B70, 0, none⟩) 24 k72]) rfl (by kernel_rfl) (by kernel_rfl) (by kernel_rfl) (ex_load rfl (by kernel_rfl) (ld31 ((BoxAt.ext (hY131.trans hX130) bO83_0).1))) ?_
    refine pl_step rfl (by kernel_rfl) (by kernel_rfl) (by kernel_rfl) (sn_call (f := 31) (args := #[.agg #[.slice (some ⟨B111, 0, none⟩) 24 k113], .agg #[.slice (some ⟨B70, 0, none⟩) 24 k72]]) (by kernel_rfl) ((Contains_w (r := true) _ _ _ (RowsAt.va (hr118.ext hX130) (Swath.sure_valid hok _ _)) (RowsAt.va (hr77.ext (hY131.trans hX130)) (Swath.sure_valid hok _ _)) (Swath.longer_a (f := s.1) (t := s.2) hok (by omega) (by omega))).mono ?_))
    rintro e w148 ⟨rfl, hb⟩
    replace hE := hE.trans hb
    replace hX130 := hX130.trans hb
    replace hr135 := hr135.ext hb
    replace bO140_0 := BoxAt.ext hb bO140_0
    have hs149 := hb.size
    clear hb
    refine ⟨_, rfl, ?_⟩
    refine pl_take (.bool true) rfl (by kernel_rfl) (by kernel_rfl) (by kernel_rfl) (by kernel_rfl) ?_
    refine pl_take (.bool true) rfl (by kernel_rfl) (by kernel_rfl) (by kernel_rfl) (by kernel_rfl) ?_
    refine pl_take (.pointer (some ⟨O124, 0, none⟩)) rfl (by kernel_rfl) (by kernel_rfl) (by kernel_rfl) (by kernel_rfl) ?_
    refine pl_take (.agg #[.slice (some ⟨B111, 0, none⟩) 24 k113]) rfl (by kernel_rfl) (by kernel_rfl) (by kernel_rfl) (ex_load rfl (by kernel_rfl) (ld31 ((BoxAt.ext hX130 bO124_0).1))) ?_
    refine pl_take (.pointer (some ⟨O103, 0, none⟩)) rfl (by kernel_rfl) (by kernel_rfl) (by kernel_rfl) (by kernel_rfl) ?_
    refine pl_take (.agg #[.slice (some ⟨B90, 0, none⟩) 24 k92]) rfl (by kernel_rfl) (by kernel_rfl) (by kernel_rfl) (ex_load rfl (by kernel_rfl) (ld31 ((BoxAt.ext (hX109.trans hX130) bO103_0).1))) ?_
    refine pl_step rfl (by kernel_rfl) (by kernel_rfl) (by kernel_rfl) (sn_call (f := 31) (args := #[.agg #[.slice (some ⟨B111, 0, none⟩) 24 k113], .agg #[.slice (some ⟨B90, 0, none⟩) 24 k92]]) (by kernel_rfl) ((Contains_w (r := true) _ _ _ (RowsAt.va (hr118.ext hX130) (Swath.sure_valid hok _ _)) (RowsAt.va (hr97.ext (hX109.trans hX130)) (Swath.sure_valid hok _ _)) (Swath.longer_b (f := s.1) (t := s.2) hok (by omega) (by omega))).mono ?_))
    rintro e w150 ⟨rfl, hb⟩
    replace hE := hE.trans hb
    replace hX130 := hX130.trans hb
    replace hr135 := hr135.ext hb
    replace bO140_0 := BoxAt.ext hb bO140_0
    have hs151 := hb.size
    clear hb
    refine ⟨_, rfl, ?_⟩
    refine pl_take (.bool true) rfl (by kernel_rfl) (by kernel_rfl) (by kernel_rfl) (by kernel_rfl) ?_
    refine pl_take (.bool true) rfl (by kernel_rfl) (by kernel_rfl) (by kernel_rfl) (by kernel_rfl) ?_
    refine pl_nil ?_
    refine qw_then ?_
    refine cw_clean [8] (ws' := [(8, .bool true)]) (by kernel_rfl) (fun L => ?_)
    refine cw_ret ?_
    refine qw_ret [.bool true] rfl ⟨(by kernel_rfl), trivial⟩ ?_
    exact ⟨rfl, hE⟩
theorem SwathLonger_walk (v0 : Value) (op0 : Seven v0) (v1 : Value) (op1 : Pair v1) (lk : Int) (ilk : IsI lk) (ka : Int) (ika : IsI ka) (w : World) : Calls Try.prog 6 #[v0, v1, .int .i64 lk, .int .i64 ka] w fun e w' => e = .returned (.bool true) ∧ Ext w w' := by
  obtain ⟨x0, x1, x2, x3, x4, x5, x6, rfl, ix0, ix1, ix2, ix3, ix4, ix5, ix6⟩ := op0
  obtain ⟨y0, y1, rfl, iy0, iy1⟩ := op1
  exact SwathLonger_w x0 x1 x2 x3 x4 x5 x6 y0 y1 lk ka  ix0 ix1 ix2 ix3 ix4 ix5 ix6 iy0 iy1 ilk ika w

end Go.Proofs.Ytdjjkhefdalokaa

/- The statement SwathLonger: for every input the law returns true, and every argument reads as it read before; the two tables of package math/bits that the row lists are tied to the program's text. -/
namespace Go.Proofs.Ytdjjkhefdalokaa
open Go.ChangeShapes Go.WideShapes Go.ChangeAt Go.RowKit

set_option maxRecDepth 100000 in
theorem SwathLonger_lifted (os : Os) (started : os.Started) (H : Type) (enc : TypeId × Value → H) :
    ReturnsInHanded {} Try.checked os 6 .any (Rows.swathLongerSpec.pre6 enc Try.prog Try.f6 Rows.swathLongerRow.domain false)
      (Rows.swathLongerSpec.post enc Try.prog Try.f6 false true false false) := by
  refine returnsInHanded_of_change_sized (C := Try.checked) own started (by kernel_rfl) Try.func6
    (ChangeSpec.witness6 (enc := enc) (C := Try.checked) false ⟨#[], #[.agg #[.int .i64 0, .int .i64 0, .int .i64 0, .int .i64 0, .int .i64 0, .int .i64 0, .int .i64 0], .agg #[.int .i64 0, .int .i64 0], .int .i64 0, .int .i64 0], []⟩ 8 (by kernel_rfl) (by kernel_rfl) (by kernel_rfl) (by kernel_rfl)) ?_
  intro W base args ds gs before hval0 hW _ hsz _
  have hval : ∀ (j : Nat) t v, Try.f6.params[j]? = some t → args[j]? = some v → Value.okWide Try.prog W .any base t v := hval0
  have hW' := hW
  obtain ⟨p, q, hA0, hV, rfl, hfz, hnd⟩ := hW
  have hA : DataW.TrodAll enc Try.prog W 0 (fun _ => true) true Try.f6.params.toList args.toList ds p := hA0
  rw [Try.params6] at hA hval
  obtain ⟨v0, vs0, d0, ds0, p0, q0, hargs, rfl, rfl, h0, r0⟩ := trodAll_cons hA
  obtain ⟨v1, vs1, d1, ds1, p1, q1, rfl, rfl, rfl, h1, r1⟩ := trodAll_cons r0
  obtain ⟨v2, vs2, d2, ds2, p2, q2, rfl, rfl, rfl, h2, r2⟩ := trodAll_cons r1
  obtain ⟨v3, vs3, d3, ds3, p3, q3, rfl, rfl, rfl, h3, r3⟩ := trodAll_cons r2
  obtain ⟨rfl, rfl, rfl⟩ := trodAll_nil r3
  obtain rfl : args = #[v0, v1, v2, v3] := by cases args; simp_all
  obtain ⟨rfl, rfl⟩ := trodVars_none hV
  have k0 := h0
  have lt0 : ∀ x ∈ p0, x.block < W.heap.size := by obtain ⟨m, hm⟩ := k0; exact DataW.trod_lt m _ _ _ hm
  have op0 := open_seven (hval 0 _ v0 rfl rfl) h0
  have k1 := h1
  have lt1 : ∀ x ∈ p1, x.block < W.heap.size := by obtain ⟨m, hm⟩ := k1; exact DataW.trod_lt m _ _ _ hm
  have op1 := open_pair (hval 1 _ v1 rfl rfl) h1
  obtain ⟨a2, rfl, rfl, rfl, w2⟩ := open_int Try.underlying3 (hval 2 3 v2 rfl rfl) h2
  obtain ⟨a3, rfl, rfl, rfl, w3⟩ := open_int Try.underlying3 (hval 3 3 v3 rfl rfl) h3
  clear hA0 hval0
  refine (SwathLonger_walk v0 op0 v1 op1 a2 (isI_of_wf w2) a3 (isI_of_wf w3) W).mono fun e W' ⟨he, hE⟩ => ?_
  subst he
  have bel : Below W.heap.size W W' := hE
  exact ⟨_, rfl, _, _, _, [], _, [], hW', trodAll_mk1 (shut_bool Try.underlying4 _), (trodAll_cons_mk (Below.trod laidOut (by kernel_rfl) (of_decide_eq_true (by kernel_rfl)) k0 bel lt0) (trodAll_cons_mk (Below.trod laidOut (by kernel_rfl) (of_decide_eq_true (by kernel_rfl)) k1 bel lt1) (trodAll_cons_mk (shut_int Try.underlying3 w2) (trodAll_cons_mk (shut_int Try.underlying3 w3) trodAll_mk0)))), rfl, bel.frame _, fun h => by cases h⟩

theorem SwathLonger_over : Rows.SwathLongerSaid :=
  OpenClaim.holds_of_wide 6 Try.f6 rfl rfl rfl rfl rfl rfl rfl ⟨rfl, rfl, rfl, rfl, rfl⟩ rfl rfl rfl rfl rfl (by kernel_rfl) Try.func6 (by kernel_rfl)
    (of_decide_eq_true (by kernel_rfl)) (by unfold Func.isWrapper; first | (rw [if_pos (by decide +kernel)]; kernel_rfl) | (rw [if_neg (by decide +kernel)]; exact ⟨rfl, rfl⟩))
    (fun os started H enc _ => SwathLonger_lifted os started H enc)

theorem SwathLonger_holds : Rows.SwathLongerSaid := SwathLonger_over
#print axioms SwathLonger_holds
end Go.Proofs.Ytdjjkhefdalokaa
