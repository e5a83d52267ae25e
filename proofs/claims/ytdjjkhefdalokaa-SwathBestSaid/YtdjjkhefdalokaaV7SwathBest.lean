/- Part 7 of what the proof of SwathBest stands on. -/
import Derived.Test.YtdjjkhefdalokaaV6SwathBest
/- The walk of SwathBest. -/
namespace Go.Proofs.Ytdjjkhefdalokaa
open Go.RowKit

theorem Best_is {w1 : World} {o : Orb} {sp : Int × Int} {mi : Int} {W : Nat} {a : Option Addr} {l : List Int} {n : Nat} (c : Nat) (w : World) (hA : AA w1 a l n true) (e1 : Ext w1 w) (g1 : Orb.ok o = true) (g2 : Swath.spB sp 300 = true) (g3 : Globe.inB mi 1 60 = true) (g4 : Globe.inB ((W : Nat) : Int) 0 4 = true) :
    Calls Try.prog 26 #[.agg #[.int .i64 o.p, .int .i64 o.f, .int .i64 o.lo, .int .i64 o.hi, .int .i64 o.nd, .int .i64 o.tn, .int .i64 o.sl], .agg #[.int .i64 sp.1, .int .i64 sp.2], .int .i64 mi, .int .i64 ((W : Nat) : Int), .agg #[.slice a n c]] w fun e w' => ∃ (b1 b2 lk : Int) (is : Bool), e = .returned (.tuple #[.agg #[.int .i64 b1, .int .i64 b2], .int .i64 lk, .bool is, .int .i64 0]) ∧ Swath.BestIs o sp mi W l b1 b2 lk is ∧ Ext w w' :=
  (Best_y c w hA e1 g1 g2 g3 g4).mono fun _ _ ⟨he, hE⟩ => ⟨_, _, _, _, he, Swath.best_is o sp mi W l, hE⟩
set_option maxRecDepth 1000000 in
set_option maxHeartbeats 4000000 in
theorem SwathBest_w (x0 x1 x2 x3 x4 x5 x6 y0 y1 z0 z1 z2 z3 wd bf af : Int) (track : Bool) (ix0 : IsI x0) (ix1 : IsI x1) (ix2 : IsI x2) (ix3 : IsI x3) (ix4 : IsI x4) (ix5 : IsI x5) (ix6 : IsI x6) (iy0 : IsI y0) (iy1 : IsI y1) (iz0 : IsI z0) (iz1 : IsI z1) (iz2 : IsI z2) (iz3 : IsI z3) (iwd : IsI wd) (ibf : IsI bf) (iaf : IsI af) (w : World) : Calls Try.prog 5 #[.agg #[.int .i64 x0, .int .i64 x1, .int .i64 x2, .int .i64 x3, .int .i64 x4, .int .i64 x5, .int .i64 x6], .agg #[.int .i64 y0, .int .i64 y1], .agg #[.int .i64 z0, .int .i64 z1, .int .i64 z2, .int .i64 z3], .int .i64 wd, .int .i64 bf, .int .i64 af, .bool track] w fun e w' => e = .returned (.bool true) ∧ Ext w w' := by
  refine calls_cw 227 [(6, .bool track), (5, .int .i64 af), (4, .int .i64 bf), (3, .int .i64 wd), (2, .agg #[.int .i64 z0, .int .i64 z1, .int .i64 z2, .int .i64 z3]), (1, .agg #[.int .i64 y0, .int .i64 y1]), (0, .agg #[.int .i64 x0, .int .i64 x1, .int .i64 x2, .int .i64 x3, .int .i64 x4, .int .i64 x5, .int .i64 x6])] Try.func5 rfl Try.ntmps5 (by kernel_rfl) (by kernel_rfl) (fun L => ?_)
  have hE : Ext w w := Ext.refl w
  refine cw_seq ?_; refine cw_plain ?_
  refine pS (sn_new (us := #[.int .i64 x0, .int .i64 x1, .int .i64 x2, .int .i64 x3, .int .i64 x4, .int .i64 x5, .int .i64 x6]) (t := 22) (by kernel_rfl) ?_)
  intro O1 X2 hO hOs hb hbx
  have hzO1 := hO; have hyO1 := hOs; clear hO hOs
  have bO1_0 : BoxAt X2 O1 0 (.int .i64 x0) := hbx 0 _ rfl
  have bO1_1 : BoxAt X2 O1 1 (.int .i64 x1) := hbx 1 _ rfl
  have bO1_2 : BoxAt X2 O1 2 (.int .i64 x2) := hbx 2 _ rfl
  have bO1_3 : BoxAt X2 O1 3 (.int .i64 x3) := hbx 3 _ rfl
  have bO1_4 : BoxAt X2 O1 4 (.int .i64 x4) := hbx 4 _ rfl
  have bO1_5 : BoxAt X2 O1 5 (.int .i64 x5) := hbx 5 _ rfl
  have bO1_6 : BoxAt X2 O1 6 (.int .i64 x6) := hbx 6 _ rfl
  clear hbx; replace hE := hE.trans hb; have hs3 := hb.size; clear hb; have lt4 := bO1_0.lt
  refine pS (sn_new (us := #[.int .i64 y0, .int .i64 y1]) (t := 35) (by kernel_rfl) ?_)
  intro O5 X6 hO hOs hb hbx
  have hzO5 := hO; have hyO5 := hOs; clear hO hOs
  have bO5_0 : BoxAt X6 O5 0 (.int .i64 y0) := hbx 0 _ rfl
  have bO5_1 : BoxAt X6 O5 1 (.int .i64 y1) := hbx 1 _ rfl
  clear hbx; replace hE := hE.trans hb; replace bO1_0 := BoxAt.ext hb bO1_0; replace bO1_1 := BoxAt.ext hb bO1_1; replace bO1_2 := BoxAt.ext hb bO1_2; replace bO1_3 := BoxAt.ext hb bO1_3; replace bO1_4 := BoxAt.ext hb bO1_4; replace bO1_5 := BoxAt.ext hb bO1_5; replace bO1_6 := BoxAt.ext hb bO1_6; have hs7 := hb.size; clear hb; have lt8 := bO5_0.lt
  refine pS (sn_new (us := #[.int .i64 z0, .int .i64 z1, .int .i64 z2, .int .i64 z3]) (t := 63) (by kernel_rfl) ?_)
  intro O9 X10 hO hOs hb hbx
  have hzO9 := hO; have hyO9 := hOs; clear hO hOs
  have bO9_0 : BoxAt X10 O9 0 (.int .i64 z0) := hbx 0 _ rfl
  have bO9_1 : BoxAt X10 O9 1 (.int .i64 z1) := hbx 1 _ rfl
  have bO9_2 : BoxAt X10 O9 2 (.int .i64 z2) := hbx 2 _ rfl
  have bO9_3 : BoxAt X10 O9 3 (.int .i64 z3) := hbx 3 _ rfl
  clear hbx; replace hE := hE.trans hb; replace bO1_0 := BoxAt.ext hb bO1_0; replace bO1_1 := BoxAt.ext hb bO1_1; replace bO1_2 := BoxAt.ext hb bO1_2; replace bO1_3 := BoxAt.ext hb bO1_3; replace bO1_4 := BoxAt.ext hb bO1_4; replace bO1_5 := BoxAt.ext hb bO1_5; replace bO1_6 := BoxAt.ext hb bO1_6; replace bO5_0 := BoxAt.ext hb bO5_0; replace bO5_1 := BoxAt.ext hb bO5_1; have hs11 := hb.size; clear hb; have lt12 := bO9_0.lt
  refine pT (.bool false) ?_
  refine pl_nil ?_; refine qw_then ?_; refine cw_seq ?_
  have hX13 : Ext X10 X10 := Ext.refl _
  refine cw_plain ?_
  refine pS (sn_call (f := 9) (args := #[]) (by kernel_rfl) ((saneS_c _).mono ?_))
  rintro e w14 ⟨rfl, hb⟩
  replace hE := hE.trans hb; replace hX13 := hX13.trans hb; have hs15 := hb.size; clear hb
  refine ⟨_, rfl, ?_⟩
  refine pT (.bool true) ?_
  refine pl_nil ?_; refine qw_then ?_; refine cw_seq ?_; refine cw_seq ?_; refine cw_plain ?_
  refine pT (.bool true) ?_
  refine pT (.bool false) ?_
  refine pl_nil ?_; refine qw_then ?_
  refine cw_clean [3, 4, 5, 6, 7, 8, 9, 15, 32] (ws' := [(3, .int .i64 wd), (4, .int .i64 bf), (5, .int .i64 af), (6, .bool track), (7, .pointer (some ⟨O1, 0, none⟩)), (8, .pointer (some ⟨O5, 0, none⟩)), (9, .pointer (some ⟨O9, 0, none⟩)), (15, .bool true), (32, .bool false)]) (by kernel_rfl) (fun L => ?_)
  refine cw_f (by kernel_rfl) ?_
  refine cw_skip ?_
  refine qw_then ?_; refine cw_seq ?_; refine cw_plain ?_
  refine pl_take (.agg #[.int .i64 x0, .int .i64 x1, .int .i64 x2, .int .i64 x3, .int .i64 x4, .int .i64 x5, .int .i64 x6]) rfl (by kernel_rfl) (by kernel_rfl) (by kernel_rfl) (ex_load rfl (by kernel_rfl) (ld22 ((BoxAt.ext hX13 bO1_0).1) ((BoxAt.ext hX13 bO1_1).1) ((BoxAt.ext hX13 bO1_2).1) ((BoxAt.ext hX13 bO1_3).1) ((BoxAt.ext hX13 bO1_4).1) ((BoxAt.ext hX13 bO1_5).1) ((BoxAt.ext hX13 bO1_6).1))) ?_
  refine pS (sn_call (f := 11) (args := #[.agg #[.int .i64 x0, .int .i64 x1, .int .i64 x2, .int .i64 x3, .int .i64 x4, .int .i64 x5, .int .i64 x6]]) (by kernel_rfl) ((Made7_c _ _ _ _ _ _ _ _ ix0 ix1 ix2 ix3 ix4 ix5 ix6).mono ?_))
  rintro e w16 ⟨o, rfl, hok, hsl, hb⟩
  replace hE := hE.trans hb; replace hX13 := hX13.trans hb; have hs17 := hb.size; clear hb
  have hq0 := Orb.ok_t.1 hok
  refine ⟨_, rfl, ?_⟩
  refine pS (sn_new (us := #[.int .i64 0, .int .i64 0, .int .i64 0, .int .i64 0, .int .i64 0, .int .i64 0, .int .i64 0]) (t := 24) (by kernel_rfl) ?_)
  intro O18 X19 hO hOs hb hbx
  have hzO18 := hO; have hyO18 := hOs; clear hO hOs
  have bO18_0 : BoxAt X19 O18 0 (.int .i64 0) := hbx 0 _ rfl
  have bO18_1 : BoxAt X19 O18 1 (.int .i64 0) := hbx 1 _ rfl
  have bO18_2 : BoxAt X19 O18 2 (.int .i64 0) := hbx 2 _ rfl
  have bO18_3 : BoxAt X19 O18 3 (.int .i64 0) := hbx 3 _ rfl
  have bO18_4 : BoxAt X19 O18 4 (.int .i64 0) := hbx 4 _ rfl
  have bO18_5 : BoxAt X19 O18 5 (.int .i64 0) := hbx 5 _ rfl
  have bO18_6 : BoxAt X19 O18 6 (.int .i64 0) := hbx 6 _ rfl
  clear hbx; replace hE := hE.trans hb; replace hX13 := hX13.trans hb; have hs20 := hb.size; clear hb; have lt21 := bO18_0.lt
  refine pl_put rfl (by kernel_rfl) (by kernel_rfl) (sn_setK7 (O := O18) (j := 0) (v0 := .int .i64 o.p) (v1 := .int .i64 o.f) (v2 := .int .i64 o.lo) (v3 := .int .i64 o.hi) (v4 := .int .i64 o.nd) (v5 := .int .i64 o.tn) (v6 := .int .i64 o.sl) (ex_store (p := .pointer (some ⟨O18, 0, none⟩)) (v := .agg #[.int .i64 o.p, .int .i64 o.f, .int .i64 o.lo, .int .i64 o.hi, .int .i64 o.nd, .int .i64 o.tn, .int .i64 o.sl]) rfl (by kernel_rfl) (by kernel_rfl) (st24 bO18_0.1 bO18_0.2 bO18_1.1 bO18_1.2 bO18_2.1 bO18_2.2 bO18_3.1 bO18_3.2 bO18_4.1 bO18_4.2 bO18_5.1 bO18_5.2 bO18_6.1 bO18_6.2)) bO18_0 bO18_1 bO18_2 bO18_3 bO18_4 bO18_5 bO18_6 ?_)
  intro X22 ho hv0 hv1 hv2 hv3 hv4 hv5 hv6 hk
  replace hE := ho.ext hE (T (T hs3 (T hs7 (T hs11 (T hs15 hs17)))) (Nat.le_of_eq hzO18)); replace hX13 := ho.ext hX13 (T (T hs15 hs17) (Nat.le_of_eq hzO18))
  have hs23 : X19.heap.size ≤ X22.heap.size := Nat.le_of_eq ho.size.symm
  clear ho hk bO18_0 bO18_1 bO18_2 bO18_3 bO18_4 bO18_5 bO18_6
  have bO18_0 := hv0; clear hv0
  have bO18_1 := hv1; clear hv1
  have bO18_2 := hv2; clear hv2
  have bO18_3 := hv3; clear hv3
  have bO18_4 := hv4; clear hv4
  have bO18_5 := hv5; clear hv5
  have bO18_6 := hv6; clear hv6
  refine pl_nil ?_; refine qw_then ?_; refine cw_seq ?_
  have hX24 : Ext X22 X22 := Ext.refl _
  refine cw_plain ?_
  refine pl_take (.agg #[.int .i64 y0, .int .i64 y1]) rfl (by kernel_rfl) (by kernel_rfl) (by kernel_rfl) (ex_load rfl (by kernel_rfl) (ld35 ((BoxAt.ext (hX13.trans hX24) bO5_0).1) ((BoxAt.ext (hX13.trans hX24) bO5_1).1))) ?_
  refine pS (sn_call (f := 12) (args := #[.agg #[.int .i64 y0, .int .i64 y1]]) (by kernel_rfl) ((Shot_c _ _ _ iy0 iy1).mono ?_))
  rintro e w25 ⟨s, rfl, hsp30, hsp1, hb⟩
  replace hE := hE.trans hb; replace hX24 := hX24.trans hb; have hs26 := hb.size; clear hb
  have q2 := Swath.spB_t.1 hsp30
  refine ⟨_, rfl, ?_⟩
  refine pS (sn_new (us := #[.int .i64 0, .int .i64 0]) (t := 26) (by kernel_rfl) ?_)
  intro O27 X28 hO hOs hb hbx
  have hzO27 := hO; have hyO27 := hOs; clear hO hOs
  have bO27_0 : BoxAt X28 O27 0 (.int .i64 0) := hbx 0 _ rfl
  have bO27_1 : BoxAt X28 O27 1 (.int .i64 0) := hbx 1 _ rfl
  clear hbx; replace hE := hE.trans hb; replace hX24 := hX24.trans hb; have hs29 := hb.size; clear hb; have lt30 := bO27_0.lt
  refine pl_put rfl (by kernel_rfl) (by kernel_rfl) (sn_set2 (O := O27) (j := 0) (v := .int .i64 s.1) (v' := .int .i64 s.2) (ex_store (p := .pointer (some ⟨O27, 0, none⟩)) (v := .agg #[.int .i64 s.1, .int .i64 s.2]) rfl (by kernel_rfl) (by kernel_rfl) (st26 bO27_0.1 bO27_0.2 bO27_1.1 bO27_1.2)) bO27_0 bO27_1 ?_)
  intro X31 ho hv0 hv1 hk
  replace hE := ho.ext hE (T (T hs3 (T hs7 (T hs11 (T hs15 (T hs17 (T hs20 (T hs23 hs26))))))) (Nat.le_of_eq hzO27)); replace hX24 := ho.ext hX24 (T hs26 (Nat.le_of_eq hzO27))
  have hs32 : X28.heap.size ≤ X31.heap.size := Nat.le_of_eq ho.size.symm
  clear ho hk bO27_0 bO27_1
  have bO27_0 := hv0; clear hv0
  have bO27_1 := hv1; clear hv1
  refine pl_nil ?_; refine qw_then ?_
  refine cw_clean [3, 4, 5, 6, 9, 15, 16, 17] (ws' := [(3, .int .i64 wd), (4, .int .i64 bf), (5, .int .i64 af), (6, .bool track), (9, .pointer (some ⟨O9, 0, none⟩)), (15, .bool true), (16, .pointer (some ⟨O18, 0, none⟩)), (17, .pointer (some ⟨O27, 0, none⟩))]) (by kernel_rfl) (fun L => ?_)
  refine cw_seq ?_; refine cw_plain ?_
  refine pT (.int .i64 wd) ?_
  refine pS (sn_call (f := 13) (args := #[.int .i64 wd, .int .i64 5]) (by kernel_rfl) ((pickL_n _ (5) _ iwd (by omega) (by omega)).mono ?_))
  rintro e w' ⟨pk34, rfl, pk34l, -, rfl⟩
  refine ⟨_, rfl, ?_⟩
  refine pT (.int .i64 (((pk34 : Nat) : Int) : Int)) ?_
  refine pl_nil ?_; refine qw_then ?_; refine cw_seq ?_; refine cw_plain ?_
  refine pT (.pointer (some ⟨O27, 1, none⟩)) ?_
  refine pl_take (.int .i64 s.2) rfl (by kernel_rfl) (by kernel_rfl) (by kernel_rfl) (ex_load rfl (by kernel_rfl) (ld3 (bO27_1.1))) ?_
  refine pT (.pointer (some ⟨O27, 0, none⟩)) ?_
  refine pl_take (.int .i64 s.1) rfl (by kernel_rfl) (by kernel_rfl) (by kernel_rfl) (ex_load rfl (by kernel_rfl) (ld3 (bO27_0.1))) ?_
  refine pl_take (.int .i64 (s.2 - s.1 : Int)) rfl (by kernel_rfl) (by kernel_rfl) (by kernel_rfl) (ev_wrap (by kernel_rfl) (by omega) (by omega)) ?_
  refine pT (.int .i64 (s.2 - s.1 : Int)) ?_
  refine pl_nil ?_; refine qw_then ?_
  refine cw_clean [4, 5, 6, 9, 15, 16, 17, 18, 19] (ws' := [(4, .int .i64 bf), (5, .int .i64 af), (6, .bool track), (9, .pointer (some ⟨O9, 0, none⟩)), (15, .bool true), (16, .pointer (some ⟨O18, 0, none⟩)), (17, .pointer (some ⟨O27, 0, none⟩)), (18, .int .i64 (((pk34 : Nat) : Int) : Int)), (19, .int .i64 (s.2 - s.1 : Int))]) (by kernel_rfl) (fun L => ?_)
  refine cw_seq ?_
  refine cw_join (fun ws' Y => ∃ pk38 : Nat, ∃ pk40 : Nat, ∃ O41 : Nat, ws' = [(6, .bool track), (9, .pointer (some ⟨O9, 0, none⟩)), (15, .bool true), (16, .pointer (some ⟨O18, 0, none⟩)), (17, .pointer (some ⟨O27, 0, none⟩)), (18, .int .i64 (((pk34 : Nat) : Int) : Int)), (19, .int .i64 (s.2 - s.1 : Int)), (20, .pointer (some ⟨O41, 0, none⟩))] ∧ Ext w Y ∧ Ext X22 Y ∧ BoxAt Y O27 0 (.int .i64 s.1) ∧ BoxAt Y O27 1 (.int .i64 s.2) ∧ pk38 < 30 ∧ pk40 < 30 ∧ BoxAt Y O41 0 (.int .i64 (max (0 : Int) (s.1 - (((pk38 : Nat) : Int)) : Int) : Int)) ∧ BoxAt Y O41 1 (.int .i64 (s.2 + (((pk40 : Nat) : Int)) : Int)) ∧ X31.heap.size ≤ Y.heap.size ∧ X31.heap.size ≤ O41) (fun hJ => ?_) ?_
  ·
    refine cw_draw [(some 44, [17], []), (some 45, [44], [0]), (some 46, [4], []), (some 47, [46], [2]), (some 48, [45, 47], [1, 3]), (some 49, [48], [4]), (some 50, [17], []), (some 51, [50], [6]), (some 52, [5], []), (some 53, [52], [8, 3]), (some 54, [51, 53], [7, 9]), (some 55, [49, 54], [5, 10]), (some 20, [], []), (none, [20, 55], [12, 11, 9, 0, 1, 2, 3, 4, 5, 6, 7, 8, 9, 10, 11, 12])] (fun w' => w'.cell? ⟨O27, 0, none⟩ = some (.int .i64 s.1) ∧ w'.cell? ⟨O27, 1, none⟩ = some (.int .i64 s.2)) (by kernel_rfl) (by kernel_rfl) (by kernel_rfl) (by kernel_rfl) ((calm_then calm_body)) (⟨bO27_0.1, bO27_1.1⟩) (fun ops Q X35 hb hL hR hK => ?_)
    replace hE := hE.trans hb; replace hX24 := hX24.trans hb; replace bO27_0 := BoxAt.ext hb bO27_0; replace bO27_1 := BoxAt.ext hb bO27_1; have hs36 := hb.size; clear hb
    refine wT 0 (.pointer (some ⟨O27, 0, none⟩)) hR (fun w _ => by kernel_rfl) (⟨bO27_0.1, bO27_1.1⟩) ?_
    refine wT 1 (.int .i64 s.1) hR (fun w hS => ex_load rfl (by kernel_rfl) (ld3 (hS.1))) (⟨bO27_0.1, bO27_1.1⟩) ?_
    refine wT 2 (.int .i64 bf) hR (fun w _ => by kernel_rfl) (⟨bO27_0.1, bO27_1.1⟩) ?_
    refine wT 6 (.pointer (some ⟨O27, 1, none⟩)) hR (fun w _ => by kernel_rfl) (⟨bO27_0.1, bO27_1.1⟩) ?_
    refine wT 7 (.int .i64 s.2) hR (fun w hS => ex_load rfl (by kernel_rfl) (ld3 (hS.2))) (⟨bO27_0.1, bO27_1.1⟩) ?_
    refine wT 8 (.int .i64 af) hR (fun w _ => by kernel_rfl) (⟨bO27_0.1, bO27_1.1⟩) ?_
    refine wd_two 3 12 hR rfl rfl (by kernel_rfl) (by kernel_rfl) (by kernel_rfl) (by kernel_rfl) ?_ ?_
    ·
      refine sn_call (f := 13) (args := #[.int .i64 bf, .int .i64 30]) (by kernel_rfl) ((pickL_n _ (30) _ ibf (by omega) (by omega)).mono ?_)
      rintro e w' ⟨pk38, rfl, pk38l, -, rfl⟩
      refine ⟨_, rfl, ⟨bO27_0.1, bO27_1.1⟩, ?_⟩
      refine wT 4 (.int .i64 (s.1 - (((pk38 : Nat) : Int)) : Int)) hR (fun w _ => ev_wrap (by kernel_rfl) (by omega) (by omega)) (⟨bO27_0.1, bO27_1.1⟩) ?_
      refine wT 5 (.int .i64 (max (0 : Int) (s.1 - (((pk38 : Nat) : Int)) : Int) : Int)) hR (fun w _ => ev_int (show _ = Result.ok (Next.value (Value.int .i64 (if (0 : Int) < (s.1 - (((pk38 : Nat) : Int)) : Int) then (s.1 - (((pk38 : Nat) : Int)) : Int) else (0 : Int)))) _ from by kernel_rfl) (by split <;> omega)) (⟨bO27_0.1, bO27_1.1⟩) ?_
      refine wd_two 9 12 hR rfl rfl (by kernel_rfl) (by kernel_rfl) (by kernel_rfl) (by kernel_rfl) ?_ ?_
      ·
        refine sn_call (f := 13) (args := #[.int .i64 af, .int .i64 30]) (by kernel_rfl) ((pickL_n _ (30) _ iaf (by omega) (by omega)).mono ?_)
        rintro e w' ⟨pk40, rfl, pk40l, -, rfl⟩
        refine ⟨_, rfl, ⟨bO27_0.1, bO27_1.1⟩, ?_⟩
        refine wT 10 (.int .i64 (s.2 + (((pk40 : Nat) : Int)) : Int)) hR (fun w _ => ev_wrap (by kernel_rfl) (by omega) (by omega)) (⟨bO27_0.1, bO27_1.1⟩) ?_
        refine wT 11 (.agg #[.int .i64 (max (0 : Int) (s.1 - (((pk38 : Nat) : Int)) : Int) : Int), .int .i64 (s.2 + (((pk40 : Nat) : Int)) : Int)]) hR (fun w _ => by kernel_rfl) (⟨bO27_0.1, bO27_1.1⟩) ?_
        refine wd_step 12 hR rfl (by kernel_rfl) (by kernel_rfl) (by kernel_rfl) (sn_new (us := #[.int .i64 0, .int .i64 0]) (t := 26) (by kernel_rfl) ?_)
        intro O41 X42 hO hOs hb hbx
        have hzO41 := hO; have hyO41 := hOs; clear hO hOs
        have bO41_0 : BoxAt X42 O41 0 (.int .i64 0) := hbx 0 _ rfl
        have bO41_1 : BoxAt X42 O41 1 (.int .i64 0) := hbx 1 _ rfl
        clear hbx; replace hE := hE.trans hb; replace hX24 := hX24.trans hb; replace bO27_0 := BoxAt.ext hb bO27_0; replace bO27_1 := BoxAt.ext hb bO27_1; have hs43 := hb.size; clear hb; have lt44 := bO41_0.lt
        refine ⟨⟨bO27_0.1, bO27_1.1⟩, ?_⟩
        refine wd_step 13 hR rfl (by kernel_rfl) (by kernel_rfl) (by kernel_rfl) (sn_set2 (O := O41) (j := 0) (v := .int .i64 (max (0 : Int) (s.1 - (((pk38 : Nat) : Int)) : Int) : Int)) (v' := .int .i64 (s.2 + (((pk40 : Nat) : Int)) : Int)) (ex_store (p := .pointer (some ⟨O41, 0, none⟩)) (v := .agg #[.int .i64 (max (0 : Int) (s.1 - (((pk38 : Nat) : Int)) : Int) : Int), .int .i64 (s.2 + (((pk40 : Nat) : Int)) : Int)]) rfl (by kernel_rfl) (by kernel_rfl) (st26 bO41_0.1 bO41_0.2 bO41_1.1 bO41_1.2)) bO41_0 bO41_1 ?_)
        intro X45 ho hv0 hv1 hk
        replace hE := ho.ext hE (T (T hs3 (T hs7 (T hs11 (T hs15 (T hs17 (T hs20 (T hs23 (T hs26 (T hs29 (T hs32 hs36)))))))))) (Nat.le_of_eq hzO41)); replace hX24 := ho.ext hX24 (T (T hs26 (T hs29 (T hs32 hs36))) (Nat.le_of_eq hzO41)); replace bO27_0 := ho.box (Nat.ne_of_gt (Nat.lt_of_lt_of_le lt30 (T (T hs32 hs36) (Nat.le_of_eq hzO41)))) bO27_0; replace bO27_1 := ho.box (Nat.ne_of_gt (Nat.lt_of_lt_of_le lt30 (T (T hs32 hs36) (Nat.le_of_eq hzO41)))) bO27_1
        have hs46 : X42.heap.size ≤ X45.heap.size := Nat.le_of_eq ho.size.symm
        clear ho hk bO41_0 bO41_1
        have bO41_0 := hv0; clear hv0
        have bO41_1 := hv1; clear hv1
        refine ⟨⟨bO27_0.1, bO27_1.1⟩, ?_⟩
        refine wd_end hL hR hK (by kernel_rfl) ?_
        exact qw_leaf hJ [6, 9, 15, 16, 17, 18, 19, 20] (ws' := [(6, .bool track), (9, .pointer (some ⟨O9, 0, none⟩)), (15, .bool true), (16, .pointer (some ⟨O18, 0, none⟩)), (17, .pointer (some ⟨O27, 0, none⟩)), (18, .int .i64 (((pk34 : Nat) : Int) : Int)), (19, .int .i64 (s.2 - s.1 : Int)), (20, .pointer (some ⟨O41, 0, none⟩))]) (by kernel_rfl) ⟨pk38, pk40, O41, rfl, hE, hX24, bO27_0, bO27_1, pk38l, pk40l, bO41_0, bO41_1, (T hs36 (T hs43 hs46)), (T hs36 (Nat.le_of_eq hzO41))⟩
      ·
        refine sn_new (us := #[.int .i64 0, .int .i64 0]) (t := 26) (by kernel_rfl) ?_
        intro O47 X48 hO hOs hb hbx
        have hzO47 := hO; have hyO47 := hOs; clear hO hOs
        have bO47_0 : BoxAt X48 O47 0 (.int .i64 0) := hbx 0 _ rfl
        have bO47_1 : BoxAt X48 O47 1 (.int .i64 0) := hbx 1 _ rfl
        clear hbx; replace hE := hE.trans hb; replace hX24 := hX24.trans hb; replace bO27_0 := BoxAt.ext hb bO27_0; replace bO27_1 := BoxAt.ext hb bO27_1; have hs49 := hb.size; clear hb; have lt50 := bO47_0.lt
        refine ⟨⟨bO27_0.1, bO27_1.1⟩, ?_⟩
        refine wd_step 9 hR rfl (by kernel_rfl) (by kernel_rfl) (by kernel_rfl) (sn_call (f := 13) (args := #[.int .i64 af, .int .i64 30]) (by kernel_rfl) ((pickL_n _ (30) _ iaf (by omega) (by omega)).mono ?_))
        rintro e w' ⟨pk52, rfl, pk52l, -, rfl⟩
        refine ⟨_, rfl, ⟨bO27_0.1, bO27_1.1⟩, ?_⟩
        refine wT 10 (.int .i64 (s.2 + (((pk52 : Nat) : Int)) : Int)) hR (fun w _ => ev_wrap (by kernel_rfl) (by omega) (by omega)) (⟨bO27_0.1, bO27_1.1⟩) ?_
        refine wT 11 (.agg #[.int .i64 (max (0 : Int) (s.1 - (((pk38 : Nat) : Int)) : Int) : Int), .int .i64 (s.2 + (((pk52 : Nat) : Int)) : Int)]) hR (fun w _ => by kernel_rfl) (⟨bO27_0.1, bO27_1.1⟩) ?_
        refine wd_step 13 hR rfl (by kernel_rfl) (by kernel_rfl) (by kernel_rfl) (sn_set2 (O := O47) (j := 0) (v := .int .i64 (max (0 : Int) (s.1 - (((pk38 : Nat) : Int)) : Int) : Int)) (v' := .int .i64 (s.2 + (((pk52 : Nat) : Int)) : Int)) (ex_store (p := .pointer (some ⟨O47, 0, none⟩)) (v := .agg #[.int .i64 (max (0 : Int) (s.1 - (((pk38 : Nat) : Int)) : Int) : Int), .int .i64 (s.2 + (((pk52 : Nat) : Int)) : Int)]) rfl (by kernel_rfl) (by kernel_rfl) (st26 bO47_0.1 bO47_0.2 bO47_1.1 bO47_1.2)) bO47_0 bO47_1 ?_)
        intro X53 ho hv0 hv1 hk
        replace hE := ho.ext hE (T (T hs3 (T hs7 (T hs11 (T hs15 (T hs17 (T hs20 (T hs23 (T hs26 (T hs29 (T hs32 hs36)))))))))) (Nat.le_of_eq hzO47)); replace hX24 := ho.ext hX24 (T (T hs26 (T hs29 (T hs32 hs36))) (Nat.le_of_eq hzO47)); replace bO27_0 := ho.box (Nat.ne_of_gt (Nat.lt_of_lt_of_le lt30 (T (T hs32 hs36) (Nat.le_of_eq hzO47)))) bO27_0; replace bO27_1 := ho.box (Nat.ne_of_gt (Nat.lt_of_lt_of_le lt30 (T (T hs32 hs36) (Nat.le_of_eq hzO47)))) bO27_1
        have hs54 : X48.heap.size ≤ X53.heap.size := Nat.le_of_eq ho.size.symm
        clear ho hk bO47_0 bO47_1
        have bO47_0 := hv0; clear hv0
        have bO47_1 := hv1; clear hv1
        refine ⟨⟨bO27_0.1, bO27_1.1⟩, ?_⟩
        refine wd_end hL hR hK (by kernel_rfl) ?_
        exact qw_leaf hJ [6, 9, 15, 16, 17, 18, 19, 20] (ws' := [(6, .bool track), (9, .pointer (some ⟨O9, 0, none⟩)), (15, .bool true), (16, .pointer (some ⟨O18, 0, none⟩)), (17, .pointer (some ⟨O27, 0, none⟩)), (18, .int .i64 (((pk34 : Nat) : Int) : Int)), (19, .int .i64 (s.2 - s.1 : Int)), (20, .pointer (some ⟨O47, 0, none⟩))]) (by kernel_rfl) ⟨pk38, pk52, O47, rfl, hE, hX24, bO27_0, bO27_1, pk38l, pk52l, bO47_0, bO47_1, (T hs36 (T hs49 hs54)), (T hs36 (Nat.le_of_eq hzO47))⟩
    ·
      refine sn_new (us := #[.int .i64 0, .int .i64 0]) (t := 26) (by kernel_rfl) ?_
      intro O55 X56 hO hOs hb hbx
      have hzO55 := hO; have hyO55 := hOs; clear hO hOs
      have bO55_0 : BoxAt X56 O55 0 (.int .i64 0) := hbx 0 _ rfl
      have bO55_1 : BoxAt X56 O55 1 (.int .i64 0) := hbx 1 _ rfl
      clear hbx; replace hE := hE.trans hb; replace hX24 := hX24.trans hb; replace bO27_0 := BoxAt.ext hb bO27_0; replace bO27_1 := BoxAt.ext hb bO27_1; have hs57 := hb.size; clear hb; have lt58 := bO55_0.lt
      refine ⟨⟨bO27_0.1, bO27_1.1⟩, ?_⟩
      refine wd_step 3 hR rfl (by kernel_rfl) (by kernel_rfl) (by kernel_rfl) (sn_call (f := 13) (args := #[.int .i64 bf, .int .i64 30]) (by kernel_rfl) ((pickL_n _ (30) _ ibf (by omega) (by omega)).mono ?_))
      rintro e w' ⟨pk60, rfl, pk60l, -, rfl⟩
      refine ⟨_, rfl, ⟨bO27_0.1, bO27_1.1⟩, ?_⟩
      refine wT 4 (.int .i64 (s.1 - (((pk60 : Nat) : Int)) : Int)) hR (fun w _ => ev_wrap (by kernel_rfl) (by omega) (by omega)) (⟨bO27_0.1, bO27_1.1⟩) ?_
      refine wT 5 (.int .i64 (max (0 : Int) (s.1 - (((pk60 : Nat) : Int)) : Int) : Int)) hR (fun w _ => ev_int (show _ = Result.ok (Next.value (Value.int .i64 (if (0 : Int) < (s.1 - (((pk60 : Nat) : Int)) : Int) then (s.1 - (((pk60 : Nat) : Int)) : Int) else (0 : Int)))) _ from by kernel_rfl) (by split <;> omega)) (⟨bO27_0.1, bO27_1.1⟩) ?_
      refine wd_step 9 hR rfl (by kernel_rfl) (by kernel_rfl) (by kernel_rfl) (sn_call (f := 13) (args := #[.int .i64 af, .int .i64 30]) (by kernel_rfl) ((pickL_n _ (30) _ iaf (by omega) (by omega)).mono ?_))
      rintro e w' ⟨pk62, rfl, pk62l, -, rfl⟩
      refine ⟨_, rfl, ⟨bO27_0.1, bO27_1.1⟩, ?_⟩
      refine wT 10 (.int .i64 (s.2 + (((pk62 : Nat) : Int)) : Int)) hR (fun w _ => ev_wrap (by kernel_rfl) (by omega) (by omega)) (⟨bO27_0.1, bO27_1.1⟩) ?_
      refine wT 11 (.agg #[.int .i64 (max (0 : Int) (s.1 - (((pk60 : Nat) : Int)) : Int) : Int), .int .i64 (s.2 + (((pk62 : Nat) : Int)) : Int)]) hR (fun w _ => by kernel_rfl) (⟨bO27_0.1, bO27_1.1⟩) ?_
      refine wd_step 13 hR rfl (by kernel_rfl) (by kernel_rfl) (by kernel_rfl) (sn_set2 (O := O55) (j := 0) (v := .int .i64 (max (0 : Int) (s.1 - (((pk60 : Nat) : Int)) : Int) : Int)) (v' := .int .i64 (s.2 + (((pk62 : Nat) : Int)) : Int)) (ex_store (p := .pointer (some ⟨O55, 0, none⟩)) (v := .agg #[.int .i64 (max (0 : Int) (s.1 - (((pk60 : Nat) : Int)) : Int) : Int), .int .i64 (s.2 + (((pk62 : Nat) : Int)) : Int)]) rfl (by kernel_rfl) (by kernel_rfl) (st26 bO55_0.1 bO55_0.2 bO55_1.1 bO55_1.2)) bO55_0 bO55_1 ?_)
      intro X63 ho hv0 hv1 hk
      replace hE := ho.ext hE (T (T hs3 (T hs7 (T hs11 (T hs15 (T hs17 (T hs20 (T hs23 (T hs26 (T hs29 (T hs32 hs36)))))))))) (Nat.le_of_eq hzO55)); replace hX24 := ho.ext hX24 (T (T hs26 (T hs29 (T hs32 hs36))) (Nat.le_of_eq hzO55)); replace bO27_0 := ho.box (Nat.ne_of_gt (Nat.lt_of_lt_of_le lt30 (T (T hs32 hs36) (Nat.le_of_eq hzO55)))) bO27_0; replace bO27_1 := ho.box (Nat.ne_of_gt (Nat.lt_of_lt_of_le lt30 (T (T hs32 hs36) (Nat.le_of_eq hzO55)))) bO27_1
      have hs64 : X56.heap.size ≤ X63.heap.size := Nat.le_of_eq ho.size.symm
      clear ho hk bO55_0 bO55_1
      have bO55_0 := hv0; clear hv0
      have bO55_1 := hv1; clear hv1
      refine ⟨⟨bO27_0.1, bO27_1.1⟩, ?_⟩
      refine wd_end hL hR hK (by kernel_rfl) ?_
      exact qw_leaf hJ [6, 9, 15, 16, 17, 18, 19, 20] (ws' := [(6, .bool track), (9, .pointer (some ⟨O9, 0, none⟩)), (15, .bool true), (16, .pointer (some ⟨O18, 0, none⟩)), (17, .pointer (some ⟨O27, 0, none⟩)), (18, .int .i64 (((pk34 : Nat) : Int) : Int)), (19, .int .i64 (s.2 - s.1 : Int)), (20, .pointer (some ⟨O55, 0, none⟩))]) (by kernel_rfl) ⟨pk60, pk62, O55, rfl, hE, hX24, bO27_0, bO27_1, pk60l, pk62l, bO55_0, bO55_1, (T hs36 (T hs57 hs64)), (T hs36 (Nat.le_of_eq hzO55))⟩
  ·
    clear bO27_0 bO27_1 hE hX24
    rintro L ws Y65 ⟨pk38, pk40, O41, rfl, hE, hX24, bO27_0, bO27_1, pk38l, pk40l, bO41_0, bO41_1, hn66, hn67⟩
    have lt68 := bO41_0.lt; refine qw_then ?_; refine cw_seq ?_
    obtain ⟨sp, hsa0, hsa9⟩ : ∃ sp : Int × Int, max (0 : Int) (s.1 - (((pk38 : Nat) : Int)) : Int) = sp.1 ∧ s.2 + (((pk40 : Nat) : Int)) = sp.2 := ⟨(_, _), rfl, rfl⟩
    rw [hsa0] at bO41_0
    rw [hsa9] at bO41_1
    have hX69 : Ext Y65 Y65 := Ext.refl _
    refine cw_plain ?_
    have hY70 := hX13.trans hX24
    refine pl_take (.agg #[.int .i64 z0, .int .i64 z1, .int .i64 z2, .int .i64 z3]) rfl (by kernel_rfl) (by kernel_rfl) (by kernel_rfl) (ex_load rfl (by kernel_rfl) (ld63 ((BoxAt.ext (hY70.trans hX69) bO9_0).1) ((BoxAt.ext (hY70.trans hX69) bO9_1).1) ((BoxAt.ext (hY70.trans hX69) bO9_2).1) ((BoxAt.ext (hY70.trans hX69) bO9_3).1))) ?_
    refine pS (sn_newS (us := #[.int .i64 z0, .int .i64 z1, .int .i64 z2, .int .i64 z3]) (t := 63) (k := 1) (c := 1) (by kernel_rfl) ?_)
    intro O71 X72 hO hOs hb hbx
    have hzO71 := hO; have hyO71 := hOs; clear hO hOs
    have bO71_0 : BoxAt X72 O71 0 (.int .i64 z0) := hbx 0 _ rfl
    have bO71_1 : BoxAt X72 O71 1 (.int .i64 z1) := hbx 1 _ rfl
    have bO71_2 : BoxAt X72 O71 2 (.int .i64 z2) := hbx 2 _ rfl
    have bO71_3 : BoxAt X72 O71 3 (.int .i64 z3) := hbx 3 _ rfl
    clear hbx; replace hE := hE.trans hb; replace hX69 := hX69.trans hb; have hs73 := hb.size; clear hb; have lt74 := bO71_0.lt
    have hq75 : QAt X72 (some ⟨O71, 0, none⟩) 1 (fun _ j => match j with | 0 => z0 | 1 => z1 | 2 => z2 | _ => z3) := .inr ⟨O71, 0, rfl, fun i hi j hj => by
      obtain rfl : i = 0 := by omega
      match j, hj with
      | 0, _ => exact ⟨bO71_0.1, iz0⟩
      | 1, _ => exact ⟨bO71_1.1, iz1⟩
      | 2, _ => exact ⟨bO71_2.1, iz2⟩
      | 3, _ => exact ⟨bO71_3.1, iz3⟩⟩
    refine pS (sn_call (f := 10) (args := #[.slice (some ⟨O71, 0, none⟩) 1 1]) (by kernel_rfl) ((Made_c _ _ hq75 (Ext.refl _) (by omega)).mono ?_))
    rintro e w81 ⟨B76, LA77, rfl, hn78, hv79, hr80, -, hb⟩
    replace hE := hE.trans hb; replace hX69 := hX69.trans hb; replace bO71_0 := BoxAt.ext hb bO71_0; replace bO71_1 := BoxAt.ext hb bO71_1; replace bO71_2 := BoxAt.ext hb bO71_2; replace bO71_3 := BoxAt.ext hb bO71_3; have hs82 := hb.size; clear hb; have lt83 := hr80.lt
    refine ⟨_, rfl, ?_⟩
    refine pS (sn_new (us := #[.slice none 0 0]) (t := 31) (by kernel_rfl) ?_)
    intro O84 X85 hO hOs hb hbx
    have hzO84 := hO; have hyO84 := hOs; clear hO hOs
    have bO84_0 : BoxAt X85 O84 0 (.slice none 0 0) := hbx 0 _ rfl
    clear hbx; replace hE := hE.trans hb; replace hX69 := hX69.trans hb; replace bO71_0 := BoxAt.ext hb bO71_0; replace bO71_1 := BoxAt.ext hb bO71_1; replace bO71_2 := BoxAt.ext hb bO71_2; replace bO71_3 := BoxAt.ext hb bO71_3; replace hr80 := hr80.ext hb; have hs86 := hb.size; clear hb; have lt87 := bO84_0.lt
    refine pl_put rfl (by kernel_rfl) (by kernel_rfl) (sn_set (O := O84) (j := 0) (v := .slice (some ⟨B76, 0, none⟩) 24 24) (ex_store (p := .pointer (some ⟨O84, 0, none⟩)) (v := .agg #[.slice (some ⟨B76, 0, none⟩) 24 24]) rfl (by kernel_rfl) (by kernel_rfl) (st31 bO84_0.1 bO84_0.2)) bO84_0 ?_)
    intro X88 ho hv0 hk
    replace hE := ho.ext hE (T (T hs3 (T hs7 (T hs11 (T hs15 (T hs17 (T hs20 (T hs23 (T hs26 (T hs29 (T hs32 (T hn66 (T hs73 hs82)))))))))))) (Nat.le_of_eq hzO84)); replace hX69 := ho.ext hX69 (T (T hs73 hs82) (Nat.le_of_eq hzO84)); replace bO71_0 := ho.box (Nat.ne_of_gt (Nat.lt_of_lt_of_le lt74 (T hs82 (Nat.le_of_eq hzO84)))) bO71_0; replace bO71_1 := ho.box (Nat.ne_of_gt (Nat.lt_of_lt_of_le lt74 (T hs82 (Nat.le_of_eq hzO84)))) bO71_1; replace bO71_2 := ho.box (Nat.ne_of_gt (Nat.lt_of_lt_of_le lt74 (T hs82 (Nat.le_of_eq hzO84)))) bO71_2; replace bO71_3 := ho.box (Nat.ne_of_gt (Nat.lt_of_lt_of_le lt74 (T hs82 (Nat.le_of_eq hzO84)))) bO71_3; replace hr80 := ho.rows (Nat.ne_of_gt (Nat.lt_of_lt_of_le lt83 (Nat.le_of_eq hzO84))) hr80
    have hs89 : X85.heap.size ≤ X88.heap.size := Nat.le_of_eq ho.size.symm
    clear ho hk bO84_0
    have bO84_0 := hv0; clear hv0
    refine pl_nil ?_; refine qw_then ?_; refine cw_seq ?_; refine cw_seq ?_
    have hX90 : Ext X88 X88 := Ext.refl _
    refine cw_plain ?_
    refine pT (.bool track) ?_
    refine pl_nil ?_; refine qw_then ?_
    have bO71_t91 := bO71_0
    have bO71_t92 := bO71_1
    have bO71_t93 := bO71_2
    have bO71_t94 := bO71_3
    have hrt95 := hr80
    have bO84_t96 := bO84_0
    have hX97 := (hX69.trans hX90)
    refine cw_join (fun ws' wr => ∃ LB : List Int, ∃ B9 : Nat, ∃ k9 : Nat, ∃ lz : Int, ws' = [(6, .bool track), (15, .bool true), (16, .pointer (some ⟨O18, 0, none⟩)), (18, .int .i64 (((pk34 : Nat) : Int) : Int)), (19, .int .i64 (s.2 - s.1 : Int)), (20, .pointer (some ⟨O41, 0, none⟩)), (21, .pointer (some ⟨O84, 0, none⟩))] ∧ X88.heap.size ≤ wr.heap.size ∧ Ext w wr ∧ Ext Y65 wr ∧ BoxAt wr O71 0 (.int .i64 z0) ∧ BoxAt wr O71 1 (.int .i64 z1) ∧ BoxAt wr O71 2 (.int .i64 z2) ∧ BoxAt wr O71 3 (.int .i64 z3) ∧ BoxAt wr O84 0 (.slice (some ⟨B9, 0, none⟩) 24 k9) ∧ RowsAt wr B9 LB ∧ Globe.validL LB = true ∧ (track = true → -((pk34 : Nat) : Int) ≤ lz ∧ lz ≤ ((pk34 : Nat) : Int) ∧ Swath.showsB o s lz LB = true)) (fun hJ => ?_) ?_
    ·
      rcases Bool.eq_false_or_eq_true track with ht | ht
      ·
        subst ht
        refine cw_t (by kernel_rfl) ?_
        refine cw_seq ?_
        have hX99 : Ext X88 X88 := Ext.refl _
        have hY100 := hX24.trans hX97
        have hY101 := hX13.trans hY100
        refine cw_join (fun ws' Y => ∃ pk105 : Int, ∃ B106 : Nat, ∃ g107 : Nat, ∃ k108 : Nat, ∃ k109 : Nat, ∃ O120 : Nat, ws' = [(6, .bool true), (15, .bool true), (16, .pointer (some ⟨O18, 0, none⟩)), (18, .int .i64 (((pk34 : Nat) : Int) : Int)), (19, .int .i64 (s.2 - s.1 : Int)), (20, .pointer (some ⟨O41, 0, none⟩)), (21, .pointer (some ⟨O84, 0, none⟩)), (22, .pointer (some ⟨O120, 0, none⟩)), (23, .int .i64 0)] ∧ Ext w Y ∧ Ext X88 Y ∧ 0 ≤ pk105 ∧ pk105 < (((2 * pk34) + 1 : Nat) : Int) ∧ RowsAt Y B106 (Swath.sureL o s (pk105 - (((pk34 : Nat) : Int)))) ∧ RowsAt Y g107 (Swath.canL o s (pk105 - (((pk34 : Nat) : Int)))) ∧ BoxAt Y O120 0 (.slice (some ⟨B106, 0, none⟩) 24 k108) ∧ BoxAt Y O120 1 (.slice (some ⟨g107, 0, none⟩) 24 k109) ∧ X88.heap.size ≤ Y.heap.size ∧ X88.heap.size ≤ B106 ∧ X88.heap.size ≤ g107 ∧ X88.heap.size ≤ O120 ∧ Hid (B106 ≠ g107) ∧ Hid (B106 ≠ O120) ∧ Hid (g107 ≠ O120)) (fun hJ => ?_) ?_
        ·
          refine cw_draw [(some 61, [16], []), (some 62, [17], []), (some 63, [9], []), (some 64, [63], [2]), (some 65, [18], []), (some 66, [65], [4]), (some 67, [66], [5]), (some 68, [64, 67], [3, 6]), (some 69, [18], []), (some 70, [68, 69], [7, 8]), (some 71, [61, 62, 70], [0, 1, 9, 7]), (some 60, [71], [10]), (some 72, [60], [11]), (some 73, [60], [11]), (some 22, [], []), (none, [22, 72], [14, 12, 10, 0, 1, 2, 3, 4, 5, 6, 7, 8, 9, 10, 11, 12, 14]), (some 23, [73], [13, 15, 0, 1, 2, 3, 4, 5, 6, 7, 8, 9, 10, 11, 12, 13, 14, 15])] (fun w' => w'.cell? ⟨O18, 0, none⟩ = some (.int .i64 o.p) ∧ w'.cell? ⟨O18, 1, none⟩ = some (.int .i64 o.f) ∧ w'.cell? ⟨O18, 2, none⟩ = some (.int .i64 o.lo) ∧ w'.cell? ⟨O18, 3, none⟩ = some (.int .i64 o.hi) ∧ w'.cell? ⟨O18, 4, none⟩ = some (.int .i64 o.nd) ∧ w'.cell? ⟨O18, 5, none⟩ = some (.int .i64 o.tn) ∧ w'.cell? ⟨O18, 6, none⟩ = some (.int .i64 o.sl) ∧ w'.cell? ⟨O27, 0, none⟩ = some (.int .i64 s.1) ∧ w'.cell? ⟨O27, 1, none⟩ = some (.int .i64 s.2) ∧ w'.cell? ⟨O9, 0, none⟩ = some (.int .i64 z0)) (by kernel_rfl) (by kernel_rfl) (by kernel_rfl) (by kernel_rfl) ((calm_then (calm_then calm_body))) (⟨(BoxAt.ext (hY100.trans hX99) bO18_0).1, (BoxAt.ext (hY100.trans hX99) bO18_1).1, (BoxAt.ext (hY100.trans hX99) bO18_2).1, (BoxAt.ext (hY100.trans hX99) bO18_3).1, (BoxAt.ext (hY100.trans hX99) bO18_4).1, (BoxAt.ext (hY100.trans hX99) bO18_5).1, (BoxAt.ext (hY100.trans hX99) bO18_6).1, (BoxAt.ext (hX97.trans hX99) bO27_0).1, (BoxAt.ext (hX97.trans hX99) bO27_1).1, (BoxAt.ext (hY101.trans hX99) bO9_0).1⟩) (fun ops Q X102 hb hL hR hK => ?_)
          replace hE := hE.trans hb; replace hX99 := hX99.trans hb; have hs103 := hb.size; clear hb
          have hS104 := And.intro ((BoxAt.ext (hY100.trans hX99) bO18_0).1) (And.intro ((BoxAt.ext (hY100.trans hX99) bO18_1).1) (And.intro ((BoxAt.ext (hY100.trans hX99) bO18_2).1) (And.intro ((BoxAt.ext (hY100.trans hX99) bO18_3).1) (And.intro ((BoxAt.ext (hY100.trans hX99) bO18_4).1) (And.intro ((BoxAt.ext (hY100.trans hX99) bO18_5).1) (And.intro ((BoxAt.ext (hY100.trans hX99) bO18_6).1) (And.intro ((BoxAt.ext (hX97.trans hX99) bO27_0).1) (And.intro ((BoxAt.ext (hX97.trans hX99) bO27_1).1) ((BoxAt.ext (hY101.trans hX99) bO9_0).1)))))))))
          refine wT 0 (.agg #[.int .i64 o.p, .int .i64 o.f, .int .i64 o.lo, .int .i64 o.hi, .int .i64 o.nd, .int .i64 o.tn, .int .i64 o.sl]) hR (fun w hS => ex_load rfl (by kernel_rfl) (ld24 (hS.1) (hS.2.1) (hS.2.2.1) (hS.2.2.2.1) (hS.2.2.2.2.1) (hS.2.2.2.2.2.1) (hS.2.2.2.2.2.2.1))) (hS104) ?_
          refine wT 1 (.agg #[.int .i64 s.1, .int .i64 s.2]) hR (fun w hS => ex_load rfl (by kernel_rfl) (ld26 (hS.2.2.2.2.2.2.2.1) (hS.2.2.2.2.2.2.2.2.1))) (hS104) ?_
          refine wT 2 (.pointer (some ⟨O9, 0, none⟩)) hR (fun w _ => by kernel_rfl) (hS104) ?_
          refine wT 3 (.int .i64 z0) hR (fun w hS => ex_load rfl (by kernel_rfl) (ld3 (hS.2.2.2.2.2.2.2.2.2))) (hS104) ?_
          refine wT 4 (.int .i64 (((pk34 : Nat) : Int) : Int)) hR (fun w _ => by kernel_rfl) (hS104) ?_
          refine wT 5 (.int .i64 (((2 * pk34 : Nat) : Int) : Int)) hR (fun w _ => ev_wrap (by kernel_rfl) (by omega) (by omega)) (hS104) ?_
          refine wT 6 (.int .i64 ((((2 * pk34) + 1 : Nat) : Int) : Int)) hR (fun w _ => ev_wrap (by kernel_rfl) (by omega) (by omega)) (hS104) ?_
          refine wT 8 (.int .i64 (((pk34 : Nat) : Int) : Int)) hR (fun w _ => by kernel_rfl) (hS104) ?_
          refine wd_two 7 14 hR rfl rfl (by kernel_rfl) (by kernel_rfl) (by kernel_rfl) (by kernel_rfl) ?_ ?_
          ·
            refine sn_call (f := 13) (args := #[.int .i64 z0, .int .i64 ((((2 * pk34) + 1 : Nat) : Int) : Int)]) (by kernel_rfl) ((pickL_i _ ((((2 * pk34) + 1 : Nat) : Int)) _ iz0 (by omega) (by omega)).mono ?_)
            rintro e w' ⟨pk105, rfl, pk105l, pk105u, rfl⟩
            refine ⟨_, rfl, hS104, ?_⟩
            refine wT 9 (.int .i64 (pk105 - (((pk34 : Nat) : Int)) : Int)) hR (fun w _ => ev_wrap (by kernel_rfl) (by omega) (by omega)) (hS104) ?_
            refine wd_two 10 14 hR rfl rfl (by kernel_rfl) (by kernel_rfl) (by kernel_rfl) (by kernel_rfl) ?_ ?_
            ·
              refine sn_call (f := 17) (args := #[.agg #[.int .i64 o.p, .int .i64 o.f, .int .i64 o.lo, .int .i64 o.hi, .int .i64 o.nd, .int .i64 o.tn, .int .i64 o.sl], .agg #[.int .i64 s.1, .int .i64 s.2], .int .i64 (pk105 - (((pk34 : Nat) : Int)) : Int)]) (by kernel_rfl) ((Strip_y (o := o) (s := s) (lk := pk105 - (((pk34 : Nat) : Int))) _ (Swath.shB_t.2 ⟨hok, ⟨by first | omega | (simp only []; omega), by first | omega | (simp only []; omega), by first | omega | (simp only []; omega), by first | omega | (simp only []; omega)⟩, by omega, by omega⟩)).mono ?_)
              rintro e w115 ⟨B106, g107, k108, k109, rfl, hn110, hn111, hne112, hr113, hr114, hb⟩
              replace hE := hE.trans hb; replace hX99 := hX99.trans hb; have hs116 := hb.size; clear hb; have lt117 := hr113.lt; have lt118 := hr114.lt
              have hne112h := Lib.hid hne112
              have hS119 := And.intro ((BoxAt.ext (hY100.trans hX99) bO18_0).1) (And.intro ((BoxAt.ext (hY100.trans hX99) bO18_1).1) (And.intro ((BoxAt.ext (hY100.trans hX99) bO18_2).1) (And.intro ((BoxAt.ext (hY100.trans hX99) bO18_3).1) (And.intro ((BoxAt.ext (hY100.trans hX99) bO18_4).1) (And.intro ((BoxAt.ext (hY100.trans hX99) bO18_5).1) (And.intro ((BoxAt.ext (hY100.trans hX99) bO18_6).1) (And.intro ((BoxAt.ext (hX97.trans hX99) bO27_0).1) (And.intro ((BoxAt.ext (hX97.trans hX99) bO27_1).1) ((BoxAt.ext (hY101.trans hX99) bO9_0).1)))))))))
              refine ⟨_, rfl, hS119, ?_⟩
              refine wT 11 (.tuple #[.agg #[.slice (some ⟨B106, 0, none⟩) 24 k108, .slice (some ⟨g107, 0, none⟩) 24 k109], .int .i64 0]) hR (fun w _ => by kernel_rfl) (hS119) ?_
              refine wT 12 (.agg #[.slice (some ⟨B106, 0, none⟩) 24 k108, .slice (some ⟨g107, 0, none⟩) 24 k109]) hR (fun w _ => by kernel_rfl) (hS119) ?_
              refine wT 13 (.int .i64 0) hR (fun w _ => by kernel_rfl) (hS119) ?_
              refine wd_step 14 hR rfl (by kernel_rfl) (by kernel_rfl) (by kernel_rfl) (sn_new (us := #[.slice none 0 0, .slice none 0 0]) (t := 44) (by kernel_rfl) ?_)
              intro O120 X121 hO hOs hb hbx
              have hzO120 := hO; have hyO120 := hOs; clear hO hOs
              have bO120_0 : BoxAt X121 O120 0 (.slice none 0 0) := hbx 0 _ rfl
              have bO120_1 : BoxAt X121 O120 1 (.slice none 0 0) := hbx 1 _ rfl
              clear hbx; replace hE := hE.trans hb; replace hX99 := hX99.trans hb; replace hr113 := hr113.ext hb; replace hr114 := hr114.ext hb; have hs122 := hb.size; clear hb; have lt123 := bO120_0.lt
              have hS124 := And.intro ((BoxAt.ext (hY100.trans hX99) bO18_0).1) (And.intro ((BoxAt.ext (hY100.trans hX99) bO18_1).1) (And.intro ((BoxAt.ext (hY100.trans hX99) bO18_2).1) (And.intro ((BoxAt.ext (hY100.trans hX99) bO18_3).1) (And.intro ((BoxAt.ext (hY100.trans hX99) bO18_4).1) (And.intro ((BoxAt.ext (hY100.trans hX99) bO18_5).1) (And.intro ((BoxAt.ext (hY100.trans hX99) bO18_6).1) (And.intro ((BoxAt.ext (hX97.trans hX99) bO27_0).1) (And.intro ((BoxAt.ext (hX97.trans hX99) bO27_1).1) ((BoxAt.ext (hY101.trans hX99) bO9_0).1)))))))))
              refine ⟨hS124, ?_⟩
              refine wd_step 15 hR rfl (by kernel_rfl) (by kernel_rfl) (by kernel_rfl) (sn_set2 (O := O120) (j := 0) (v := .slice (some ⟨B106, 0, none⟩) 24 k108) (v' := .slice (some ⟨g107, 0, none⟩) 24 k109) (ex_store (p := .pointer (some ⟨O120, 0, none⟩)) (v := .agg #[.slice (some ⟨B106, 0, none⟩) 24 k108, .slice (some ⟨g107, 0, none⟩) 24 k109]) rfl (by kernel_rfl) (by kernel_rfl) (st44 bO120_0.1 bO120_0.2 bO120_1.1 bO120_1.2)) bO120_0 bO120_1 ?_)
              intro X125 ho hv0 hv1 hk
              replace hE := ho.ext hE (T (T hs3 (T hs7 (T hs11 (T hs15 (T hs17 (T hs20 (T hs23 (T hs26 (T hs29 (T hs32 (T hn66 (T hs73 (T hs82 (T hs86 (T hs89 (T hs103 hs116)))))))))))))))) (Nat.le_of_eq hzO120)); replace hX99 := ho.ext hX99 (T (T hs103 hs116) (Nat.le_of_eq hzO120)); replace hr113 := ho.rows (Nat.ne_of_gt (Nat.lt_of_lt_of_le lt117 (Nat.le_of_eq hzO120))) hr113; replace hr114 := ho.rows (Nat.ne_of_gt (Nat.lt_of_lt_of_le lt118 (Nat.le_of_eq hzO120))) hr114
              have hs126 : X121.heap.size ≤ X125.heap.size := Nat.le_of_eq ho.size.symm
              clear ho hk bO120_0 bO120_1
              have bO120_0 := hv0; clear hv0
              have bO120_1 := hv1; clear hv1
              have hS127 := And.intro ((BoxAt.ext (hY100.trans hX99) bO18_0).1) (And.intro ((BoxAt.ext (hY100.trans hX99) bO18_1).1) (And.intro ((BoxAt.ext (hY100.trans hX99) bO18_2).1) (And.intro ((BoxAt.ext (hY100.trans hX99) bO18_3).1) (And.intro ((BoxAt.ext (hY100.trans hX99) bO18_4).1) (And.intro ((BoxAt.ext (hY100.trans hX99) bO18_5).1) (And.intro ((BoxAt.ext (hY100.trans hX99) bO18_6).1) (And.intro ((BoxAt.ext (hX97.trans hX99) bO27_0).1) (And.intro ((BoxAt.ext (hX97.trans hX99) bO27_1).1) ((BoxAt.ext (hY101.trans hX99) bO9_0).1)))))))))
              refine ⟨hS127, ?_⟩
              refine wT 16 (.int .i64 0) hR (fun w _ => by kernel_rfl) (hS127) ?_
              refine wd_end hL hR hK (by kernel_rfl) ?_
              exact qw_leaf hJ [6, 15, 16, 18, 19, 20, 21, 22, 23] (ws' := [(6, .bool true), (15, .bool true), (16, .pointer (some ⟨O18, 0, none⟩)), (18, .int .i64 (((pk34 : Nat) : Int) : Int)), (19, .int .i64 (s.2 - s.1 : Int)), (20, .pointer (some ⟨O41, 0, none⟩)), (21, .pointer (some ⟨O84, 0, none⟩)), (22, .pointer (some ⟨O120, 0, none⟩)), (23, .int .i64 0)]) (by kernel_rfl) ⟨pk105, B106, g107, k108, k109, O120, rfl, hE, hX99, pk105l, pk105u, hr113, hr114, bO120_0, bO120_1, (T hs103 (T hs116 (T hs122 hs126))), (T hs103 hn110), (T hs103 hn111), (T (T hs103 hs116) (Nat.le_of_eq hzO120)), Lib.hid hne112h.out, Lib.hid (Nat.ne_of_lt (Nat.lt_of_lt_of_le lt117 (Nat.le_of_eq hzO120))), Lib.hid (Nat.ne_of_lt (Nat.lt_of_lt_of_le lt118 (Nat.le_of_eq hzO120)))⟩
            ·
              refine sn_new (us := #[.slice none 0 0, .slice none 0 0]) (t := 44) (by kernel_rfl) ?_
              intro O128 X129 hO hOs hb hbx
              have hzO128 := hO; have hyO128 := hOs; clear hO hOs
              have bO128_0 : BoxAt X129 O128 0 (.slice none 0 0) := hbx 0 _ rfl
              have bO128_1 : BoxAt X129 O128 1 (.slice none 0 0) := hbx 1 _ rfl
              clear hbx; replace hE := hE.trans hb; replace hX99 := hX99.trans hb; have hs130 := hb.size; clear hb; have lt131 := bO128_0.lt
              have hS132 := And.intro ((BoxAt.ext (hY100.trans hX99) bO18_0).1) (And.intro ((BoxAt.ext (hY100.trans hX99) bO18_1).1) (And.intro ((BoxAt.ext (hY100.trans hX99) bO18_2).1) (And.intro ((BoxAt.ext (hY100.trans hX99) bO18_3).1) (And.intro ((BoxAt.ext (hY100.trans hX99) bO18_4).1) (And.intro ((BoxAt.ext (hY100.trans hX99) bO18_5).1) (And.intro ((BoxAt.ext (hY100.trans hX99) bO18_6).1) (And.intro ((BoxAt.ext (hX97.trans hX99) bO27_0).1) (And.intro ((BoxAt.ext (hX97.trans hX99) bO27_1).1) ((BoxAt.ext (hY101.trans hX99) bO9_0).1)))))))))
              refine ⟨hS132, ?_⟩
              refine wd_step 10 hR rfl (by kernel_rfl) (by kernel_rfl) (by kernel_rfl) (sn_call (f := 17) (args := #[.agg #[.int .i64 o.p, .int .i64 o.f, .int .i64 o.lo, .int .i64 o.hi, .int .i64 o.nd, .int .i64 o.tn, .int .i64 o.sl], .agg #[.int .i64 s.1, .int .i64 s.2], .int .i64 (pk105 - (((pk34 : Nat) : Int)) : Int)]) (by kernel_rfl) ((Strip_y (o := o) (s := s) (lk := pk105 - (((pk34 : Nat) : Int))) _ (Swath.shB_t.2 ⟨hok, ⟨by first | omega | (simp only []; omega), by first | omega | (simp only []; omega), by first | omega | (simp only []; omega), by first | omega | (simp only []; omega)⟩, by omega, by omega⟩)).mono ?_))
              rintro e w142 ⟨B133, g134, k135, k136, rfl, hn137, hn138, hne139, hr140, hr141, hb⟩
              replace hE := hE.trans hb; replace hX99 := hX99.trans hb; replace bO128_0 := BoxAt.ext hb bO128_0; replace bO128_1 := BoxAt.ext hb bO128_1; have hs143 := hb.size; clear hb; have lt144 := hr140.lt; have lt145 := hr141.lt
              have hne139h := Lib.hid hne139
              have hS146 := And.intro ((BoxAt.ext (hY100.trans hX99) bO18_0).1) (And.intro ((BoxAt.ext (hY100.trans hX99) bO18_1).1) (And.intro ((BoxAt.ext (hY100.trans hX99) bO18_2).1) (And.intro ((BoxAt.ext (hY100.trans hX99) bO18_3).1) (And.intro ((BoxAt.ext (hY100.trans hX99) bO18_4).1) (And.intro ((BoxAt.ext (hY100.trans hX99) bO18_5).1) (And.intro ((BoxAt.ext (hY100.trans hX99) bO18_6).1) (And.intro ((BoxAt.ext (hX97.trans hX99) bO27_0).1) (And.intro ((BoxAt.ext (hX97.trans hX99) bO27_1).1) ((BoxAt.ext (hY101.trans hX99) bO9_0).1)))))))))
              refine ⟨_, rfl, hS146, ?_⟩
              refine wT 11 (.tuple #[.agg #[.slice (some ⟨B133, 0, none⟩) 24 k135, .slice (some ⟨g134, 0, none⟩) 24 k136], .int .i64 0]) hR (fun w _ => by kernel_rfl) (hS146) ?_
              refine wT 12 (.agg #[.slice (some ⟨B133, 0, none⟩) 24 k135, .slice (some ⟨g134, 0, none⟩) 24 k136]) hR (fun w _ => by kernel_rfl) (hS146) ?_
              refine wT 13 (.int .i64 0) hR (fun w _ => by kernel_rfl) (hS146) ?_
              refine wd_step 15 hR rfl (by kernel_rfl) (by kernel_rfl) (by kernel_rfl) (sn_set2 (O := O128) (j := 0) (v := .slice (some ⟨B133, 0, none⟩) 24 k135) (v' := .slice (some ⟨g134, 0, none⟩) 24 k136) (ex_store (p := .pointer (some ⟨O128, 0, none⟩)) (v := .agg #[.slice (some ⟨B133, 0, none⟩) 24 k135, .slice (some ⟨g134, 0, none⟩) 24 k136]) rfl (by kernel_rfl) (by kernel_rfl) (st44 bO128_0.1 bO128_0.2 bO128_1.1 bO128_1.2)) bO128_0 bO128_1 ?_)
              intro X147 ho hv0 hv1 hk
              replace hE := ho.ext hE (T (T hs3 (T hs7 (T hs11 (T hs15 (T hs17 (T hs20 (T hs23 (T hs26 (T hs29 (T hs32 (T hn66 (T hs73 (T hs82 (T hs86 (T hs89 hs103))))))))))))))) (Nat.le_of_eq hzO128)); replace hX99 := ho.ext hX99 (T hs103 (Nat.le_of_eq hzO128)); replace hr140 := ho.rows (Nat.ne_of_lt (Nat.lt_of_lt_of_le lt131 hn137)) hr140; replace hr141 := ho.rows (Nat.ne_of_lt (Nat.lt_of_lt_of_le lt131 hn138)) hr141
              have hs148 : w142.heap.size ≤ X147.heap.size := Nat.le_of_eq ho.size.symm
              clear ho hk bO128_0 bO128_1
              have bO128_0 := hv0; clear hv0
              have bO128_1 := hv1; clear hv1
              have hS149 := And.intro ((BoxAt.ext (hY100.trans hX99) bO18_0).1) (And.intro ((BoxAt.ext (hY100.trans hX99) bO18_1).1) (And.intro ((BoxAt.ext (hY100.trans hX99) bO18_2).1) (And.intro ((BoxAt.ext (hY100.trans hX99) bO18_3).1) (And.intro ((BoxAt.ext (hY100.trans hX99) bO18_4).1) (And.intro ((BoxAt.ext (hY100.trans hX99) bO18_5).1) (And.intro ((BoxAt.ext (hY100.trans hX99) bO18_6).1) (And.intro ((BoxAt.ext (hX97.trans hX99) bO27_0).1) (And.intro ((BoxAt.ext (hX97.trans hX99) bO27_1).1) ((BoxAt.ext (hY101.trans hX99) bO9_0).1)))))))))
              refine ⟨hS149, ?_⟩
              refine wT 16 (.int .i64 0) hR (fun w _ => by kernel_rfl) (hS149) ?_
              refine wd_end hL hR hK (by kernel_rfl) ?_
              exact qw_leaf hJ [6, 15, 16, 18, 19, 20, 21, 22, 23] (ws' := [(6, .bool true), (15, .bool true), (16, .pointer (some ⟨O18, 0, none⟩)), (18, .int .i64 (((pk34 : Nat) : Int) : Int)), (19, .int .i64 (s.2 - s.1 : Int)), (20, .pointer (some ⟨O41, 0, none⟩)), (21, .pointer (some ⟨O84, 0, none⟩)), (22, .pointer (some ⟨O128, 0, none⟩)), (23, .int .i64 0)]) (by kernel_rfl) ⟨pk105, B133, g134, k135, k136, O128, rfl, hE, hX99, pk105l, pk105u, hr140, hr141, bO128_0, bO128_1, (T hs103 (T hs130 (T hs143 hs148))), (T (T hs103 hs130) hn137), (T (T hs103 hs130) hn138), (T hs103 (Nat.le_of_eq hzO128)), Lib.hid hne139h.out, Lib.hid (Nat.ne_of_gt (Nat.lt_of_lt_of_le lt131 hn137)), Lib.hid (Nat.ne_of_gt (Nat.lt_of_lt_of_le lt131 hn138))⟩
          ·
            refine sn_new (us := #[.slice none 0 0, .slice none 0 0]) (t := 44) (by kernel_rfl) ?_
            intro O150 X151 hO hOs hb hbx
            have hzO150 := hO; have hyO150 := hOs; clear hO hOs
            have bO150_0 : BoxAt X151 O150 0 (.slice none 0 0) := hbx 0 _ rfl
            have bO150_1 : BoxAt X151 O150 1 (.slice none 0 0) := hbx 1 _ rfl
            clear hbx; replace hE := hE.trans hb; replace hX99 := hX99.trans hb; have hs152 := hb.size; clear hb; have lt153 := bO150_0.lt
            have hS154 := And.intro ((BoxAt.ext (hY100.trans hX99) bO18_0).1) (And.intro ((BoxAt.ext (hY100.trans hX99) bO18_1).1) (And.intro ((BoxAt.ext (hY100.trans hX99) bO18_2).1) (And.intro ((BoxAt.ext (hY100.trans hX99) bO18_3).1) (And.intro ((BoxAt.ext (hY100.trans hX99) bO18_4).1) (And.intro ((BoxAt.ext (hY100.trans hX99) bO18_5).1) (And.intro ((BoxAt.ext (hY100.trans hX99) bO18_6).1) (And.intro ((BoxAt.ext (hX97.trans hX99) bO27_0).1) (And.intro ((BoxAt.ext (hX97.trans hX99) bO27_1).1) ((BoxAt.ext (hY101.trans hX99) bO9_0).1)))))))))
            refine ⟨hS154, ?_⟩
            refine wd_step 7 hR rfl (by kernel_rfl) (by kernel_rfl) (by kernel_rfl) (sn_call (f := 13) (args := #[.int .i64 z0, .int .i64 ((((2 * pk34) + 1 : Nat) : Int) : Int)]) (by kernel_rfl) ((pickL_i _ ((((2 * pk34) + 1 : Nat) : Int)) _ iz0 (by omega) (by omega)).mono ?_))
            rintro e w' ⟨pk155, rfl, pk155l, pk155u, rfl⟩
            refine ⟨_, rfl, hS154, ?_⟩
            refine wT 9 (.int .i64 (pk155 - (((pk34 : Nat) : Int)) : Int)) hR (fun w _ => ev_wrap (by kernel_rfl) (by omega) (by omega)) (hS154) ?_
            refine wd_step 10 hR rfl (by kernel_rfl) (by kernel_rfl) (by kernel_rfl) (sn_call (f := 17) (args := #[.agg #[.int .i64 o.p, .int .i64 o.f, .int .i64 o.lo, .int .i64 o.hi, .int .i64 o.nd, .int .i64 o.tn, .int .i64 o.sl], .agg #[.int .i64 s.1, .int .i64 s.2], .int .i64 (pk155 - (((pk34 : Nat) : Int)) : Int)]) (by kernel_rfl) ((Strip_y (o := o) (s := s) (lk := pk155 - (((pk34 : Nat) : Int))) _ (Swath.shB_t.2 ⟨hok, ⟨by first | omega | (simp only []; omega), by first | omega | (simp only []; omega), by first | omega | (simp only []; omega), by first | omega | (simp only []; omega)⟩, by omega, by omega⟩)).mono ?_))
            rintro e w165 ⟨B156, g157, k158, k159, rfl, hn160, hn161, hne162, hr163, hr164, hb⟩
            replace hE := hE.trans hb; replace hX99 := hX99.trans hb; replace bO150_0 := BoxAt.ext hb bO150_0; replace bO150_1 := BoxAt.ext hb bO150_1; have hs166 := hb.size; clear hb; have lt167 := hr163.lt; have lt168 := hr164.lt
            have hne162h := Lib.hid hne162
            have hS169 := And.intro ((BoxAt.ext (hY100.trans hX99) bO18_0).1) (And.intro ((BoxAt.ext (hY100.trans hX99) bO18_1).1) (And.intro ((BoxAt.ext (hY100.trans hX99) bO18_2).1) (And.intro ((BoxAt.ext (hY100.trans hX99) bO18_3).1) (And.intro ((BoxAt.ext (hY100.trans hX99) bO18_4).1) (And.intro ((BoxAt.ext (hY100.trans hX99) bO18_5).1) (And.intro ((BoxAt.ext (hY100.trans hX99) bO18_6).1) (And.intro ((BoxAt.ext (hX97.trans hX99) bO27_0).1) (And.intro ((BoxAt.ext (hX97.trans hX99) bO27_1).1) ((BoxAt.ext (hY101.trans hX99) bO9_0).1)))))))))
            refine ⟨_, rfl, hS169, ?_⟩
            refine wT 11 (.tuple #[.agg #[.slice (some ⟨B156, 0, none⟩) 24 k158, .slice (some ⟨g157, 0, none⟩) 24 k159], .int .i64 0]) hR (fun w _ => by kernel_rfl) (hS169) ?_
            refine wT 12 (.agg #[.slice (some ⟨B156, 0, none⟩) 24 k158, .slice (some ⟨g157, 0, none⟩) 24 k159]) hR (fun w _ => by kernel_rfl) (hS169) ?_
            refine wT 13 (.int .i64 0) hR (fun w _ => by kernel_rfl) (hS169) ?_
            refine wd_step 15 hR rfl (by kernel_rfl) (by kernel_rfl) (by kernel_rfl) (sn_set2 (O := O150) (j := 0) (v := .slice (some ⟨B156, 0, none⟩) 24 k158) (v' := .slice (some ⟨g157, 0, none⟩) 24 k159) (ex_store (p := .pointer (some ⟨O150, 0, none⟩)) (v := .agg #[.slice (some ⟨B156, 0, none⟩) 24 k158, .slice (some ⟨g157, 0, none⟩) 24 k159]) rfl (by kernel_rfl) (by kernel_rfl) (st44 bO150_0.1 bO150_0.2 bO150_1.1 bO150_1.2)) bO150_0 bO150_1 ?_)
            intro X170 ho hv0 hv1 hk
            replace hE := ho.ext hE (T (T hs3 (T hs7 (T hs11 (T hs15 (T hs17 (T hs20 (T hs23 (T hs26 (T hs29 (T hs32 (T hn66 (T hs73 (T hs82 (T hs86 (T hs89 hs103))))))))))))))) (Nat.le_of_eq hzO150)); replace hX99 := ho.ext hX99 (T hs103 (Nat.le_of_eq hzO150)); replace hr163 := ho.rows (Nat.ne_of_lt (Nat.lt_of_lt_of_le lt153 hn160)) hr163; replace hr164 := ho.rows (Nat.ne_of_lt (Nat.lt_of_lt_of_le lt153 hn161)) hr164
            have hs171 : w165.heap.size ≤ X170.heap.size := Nat.le_of_eq ho.size.symm
            clear ho hk bO150_0 bO150_1
            have bO150_0 := hv0; clear hv0
            have bO150_1 := hv1; clear hv1
            have hS172 := And.intro ((BoxAt.ext (hY100.trans hX99) bO18_0).1) (And.intro ((BoxAt.ext (hY100.trans hX99) bO18_1).1) (And.intro ((BoxAt.ext (hY100.trans hX99) bO18_2).1) (And.intro ((BoxAt.ext (hY100.trans hX99) bO18_3).1) (And.intro ((BoxAt.ext (hY100.trans hX99) bO18_4).1) (And.intro ((BoxAt.ext (hY100.trans hX99) bO18_5).1) (And.intro ((BoxAt.ext (hY100.trans hX99) bO18_6).1) (And.intro ((BoxAt.ext (hX97.trans hX99) bO27_0).1) (And.intro ((BoxAt.ext (hX97.trans hX99) bO27_1).1) ((BoxAt.ext (hY101.trans hX99) bO9_0).1)))))))))
            refine ⟨hS172, ?_⟩
            refine wT 16 (.int .i64 0) hR (fun w _ => by kernel_rfl) (hS172) ?_
            refine wd_end hL hR hK (by kernel_rfl) ?_
            exact qw_leaf hJ [6, 15, 16, 18, 19, 20, 21, 22, 23] (ws' := [(6, .bool true), (15, .bool true), (16, .pointer (some ⟨O18, 0, none⟩)), (18, .int .i64 (((pk34 : Nat) : Int) : Int)), (19, .int .i64 (s.2 - s.1 : Int)), (20, .pointer (some ⟨O41, 0, none⟩)), (21, .pointer (some ⟨O84, 0, none⟩)), (22, .pointer (some ⟨O150, 0, none⟩)), (23, .int .i64 0)]) (by kernel_rfl) ⟨pk155, B156, g157, k158, k159, O150, rfl, hE, hX99, pk155l, pk155u, hr163, hr164, bO150_0, bO150_1, (T hs103 (T hs152 (T hs166 hs171))), (T (T hs103 hs152) hn160), (T (T hs103 hs152) hn161), (T hs103 (Nat.le_of_eq hzO150)), Lib.hid hne162h.out, Lib.hid (Nat.ne_of_gt (Nat.lt_of_lt_of_le lt153 hn160)), Lib.hid (Nat.ne_of_gt (Nat.lt_of_lt_of_le lt153 hn161))⟩
        ·
          clear hE hX99
          rintro L ws Y173 ⟨pk105, B106, g107, k108, k109, O120, rfl, hE, hX99, pk105l, pk105u, hr113, hr114, bO120_0, bO120_1, hn174, hn175, hn176, hn177, hn178, hn179, hn180⟩
          have lt181 := hr113.lt; have lt182 := hr114.lt; have lt183 := bO120_0.lt; refine qw_then ?_; refine cw_seq ?_; refine cw_seq ?_
          have hX184 : Ext Y173 Y173 := Ext.refl _
          refine cw_plain ?_
          refine pT (.int .i64 0) ?_
          refine pT (.bool false) ?_
          refine pl_nil ?_; refine qw_then ?_
          refine cw_f (by kernel_rfl) ?_
          refine cw_skip ?_
          refine qw_then ?_; refine cw_plain ?_
          refine pT (.pointer (some ⟨O120, 0, none⟩)) ?_
          refine pl_take (.agg #[.slice (some ⟨B106, 0, none⟩) 24 k108]) rfl (by kernel_rfl) (by kernel_rfl) (by kernel_rfl) (ex_load rfl (by kernel_rfl) (ld31 (bO120_0.1))) ?_
          have bO71_tt186 := (BoxAt.ext (hX99.trans hX184) bO71_t91)
          have bO71_tt187 := (BoxAt.ext (hX99.trans hX184) bO71_t92)
          have bO71_tt188 := (BoxAt.ext (hX99.trans hX184) bO71_t93)
          have bO71_tt189 := (BoxAt.ext (hX99.trans hX184) bO71_t94)
          have hrtt190 := (hrt95.ext (hX99.trans hX184))
          have bO84_tt191 := (BoxAt.ext (hX99.trans hX184) bO84_t96)
          have hrt192 := hr113
          have hrt193 := hr114
          have bO120_t194 := bO120_0
          have bO120_t195 := bO120_1
          have hY196 := hX97.trans hX99
          have hX197 := (hY196.trans hX184)
          refine pl_put rfl (by kernel_rfl) (by kernel_rfl) (sn_set (O := O84) (j := 0) (v := .slice (some ⟨B106, 0, none⟩) 24 k108) (ex_store (p := .pointer (some ⟨O84, 0, none⟩)) (v := .agg #[.slice (some ⟨B106, 0, none⟩) 24 k108]) rfl (by kernel_rfl) (by kernel_rfl) (st31 bO84_tt191.1 bO84_tt191.2)) bO84_tt191 ?_)
          intro X185 ho hv0 hk
          replace hE := ho.ext hE (T (T hs3 (T hs7 (T hs11 (T hs15 (T hs17 (T hs20 (T hs23 (T hs26 (T hs29 (T hs32 (T hn66 (T hs73 hs82)))))))))))) (Nat.le_of_eq hzO84)); replace hX197 := ho.ext hX197 (T (T hs73 hs82) (Nat.le_of_eq hzO84)); replace bO71_tt186 := ho.box (Nat.ne_of_gt (Nat.lt_of_lt_of_le lt74 (T hs82 (Nat.le_of_eq hzO84)))) bO71_tt186; replace bO71_tt187 := ho.box (Nat.ne_of_gt (Nat.lt_of_lt_of_le lt74 (T hs82 (Nat.le_of_eq hzO84)))) bO71_tt187; replace bO71_tt188 := ho.box (Nat.ne_of_gt (Nat.lt_of_lt_of_le lt74 (T hs82 (Nat.le_of_eq hzO84)))) bO71_tt188; replace bO71_tt189 := ho.box (Nat.ne_of_gt (Nat.lt_of_lt_of_le lt74 (T hs82 (Nat.le_of_eq hzO84)))) bO71_tt189; replace hrtt190 := ho.rows (Nat.ne_of_gt (Nat.lt_of_lt_of_le lt83 (Nat.le_of_eq hzO84))) hrtt190; replace hrt192 := ho.rows (Nat.ne_of_lt (Nat.lt_of_lt_of_le lt87 (T hs89 hn175))) hrt192; replace hrt193 := ho.rows (Nat.ne_of_lt (Nat.lt_of_lt_of_le lt87 (T hs89 hn176))) hrt193; replace bO120_t194 := ho.box (Nat.ne_of_lt (Nat.lt_of_lt_of_le lt87 (T hs89 hn177))) bO120_t194; replace bO120_t195 := ho.box (Nat.ne_of_lt (Nat.lt_of_lt_of_le lt87 (T hs89 hn177))) bO120_t195
          have hs198 : Y173.heap.size ≤ X185.heap.size := Nat.le_of_eq ho.size.symm
          clear ho hk bO84_tt191
          have bO84_tt191 := hv0; clear hv0
          refine pl_nil ?_
          exact qw_leaf hJ [6, 15, 16, 18, 19, 20, 21] (ws' := [(6, .bool true), (15, .bool true), (16, .pointer (some ⟨O18, 0, none⟩)), (18, .int .i64 (((pk34 : Nat) : Int) : Int)), (19, .int .i64 (s.2 - s.1 : Int)), (20, .pointer (some ⟨O41, 0, none⟩)), (21, .pointer (some ⟨O84, 0, none⟩))]) (by kernel_rfl) ⟨Swath.sureL o s (pk105 - (((pk34 : Nat) : Int))), B106, _, (pk105 - (((pk34 : Nat) : Int))), rfl, (T hn174 hs198), hE, hX197, bO71_tt186, bO71_tt187, bO71_tt188, bO71_tt189, bO84_tt191, hrt192, (Swath.sure_valid hok _ _), (fun _ => ⟨by omega, by omega, Swath.shows_self (Swath.shB_t.2 ⟨hok, ⟨by first | omega | (simp only []; omega), by first | omega | (simp only []; omega), by first | omega | (simp only []; omega), by first | omega | (simp only []; omega)⟩, by omega, by omega⟩)⟩)⟩
      ·
        subst ht
        refine cw_f (by kernel_rfl) ?_
        refine cw_skip ?_
        exact qw_leaf hJ [6, 15, 16, 18, 19, 20, 21] (ws' := [(6, .bool false), (15, .bool true), (16, .pointer (some ⟨O18, 0, none⟩)), (18, .int .i64 (((pk34 : Nat) : Int) : Int)), (19, .int .i64 (s.2 - s.1 : Int)), (20, .pointer (some ⟨O41, 0, none⟩)), (21, .pointer (some ⟨O84, 0, none⟩))]) (by kernel_rfl) ⟨LA77, B76, _, 0, rfl, (Nat.le_refl _), hE, hX97, bO71_t91, bO71_t92, bO71_t93, bO71_t94, bO84_t96, hrt95, (hv79), (fun h => by cases h)⟩
    ·
      clear bO71_t91 bO71_t92 bO71_t93 bO71_t94 hrt95 bO84_t96 hE hX97
      rintro L ws w199 ⟨LB, B9, k9, lz, rfl, hs98, hE, hX97, bO71_t91, bO71_t92, bO71_t93, bO71_t94, zb, rb, hvl9, htr⟩
      have lt200 := rb.lt; refine qw_then ?_; refine cw_seq ?_; refine cw_plain ?_
      refine pl_take (.agg #[.int .i64 o.p, .int .i64 o.f, .int .i64 o.lo, .int .i64 o.hi, .int .i64 o.nd, .int .i64 o.tn, .int .i64 o.sl]) rfl (by kernel_rfl) (by kernel_rfl) (by kernel_rfl) (ex_load rfl (by kernel_rfl) (ld24 ((BoxAt.ext (hX24.trans hX97) bO18_0).1) ((BoxAt.ext (hX24.trans hX97) bO18_1).1) ((BoxAt.ext (hX24.trans hX97) bO18_2).1) ((BoxAt.ext (hX24.trans hX97) bO18_3).1) ((BoxAt.ext (hX24.trans hX97) bO18_4).1) ((BoxAt.ext (hX24.trans hX97) bO18_5).1) ((BoxAt.ext (hX24.trans hX97) bO18_6).1))) ?_
      refine pl_take (.agg #[.int .i64 sp.1, .int .i64 sp.2]) rfl (by kernel_rfl) (by kernel_rfl) (by kernel_rfl) (ex_load rfl (by kernel_rfl) (ld26 ((BoxAt.ext hX97 bO41_0).1) ((BoxAt.ext hX97 bO41_1).1))) ?_
      refine pT (.int .i64 (s.2 - s.1 : Int)) ?_
      refine pT (.int .i64 (((pk34 : Nat) : Int) : Int)) ?_
      refine pl_take (.agg #[.slice (some ⟨B9, 0, none⟩) 24 k9]) rfl (by kernel_rfl) (by kernel_rfl) (by kernel_rfl) (ex_load rfl (by kernel_rfl) (ld31 (zb.1))) ?_
      have hvb9 : Swath.spB sp 300 = true := Swath.spB_t.2 ⟨by omega, by omega, by omega, by omega⟩
      refine pS (sn_call (f := 26) (args := #[.agg #[.int .i64 o.p, .int .i64 o.f, .int .i64 o.lo, .int .i64 o.hi, .int .i64 o.nd, .int .i64 o.tn, .int .i64 o.sl], .agg #[.int .i64 sp.1, .int .i64 sp.2], .int .i64 (s.2 - s.1 : Int), .int .i64 (((pk34 : Nat) : Int) : Int), .agg #[.slice (some ⟨B9, 0, none⟩) 24 k9]]) (by kernel_rfl) ((Best_is (o := o) (sp := sp) (mi := s.2 - s.1) (W := pk34) _ _ (RowsAt.va rb (hvl9)).aa (Ext.refl _) hok hvb9 (Globe.inB_t.2 ⟨by omega, by omega⟩) (Globe.inB_t.2 ⟨by omega, by omega⟩)).mono ?_))
      rintro e w201 ⟨b1, b2, lk9, is9, rfl, hbi, hb⟩
      replace hE := hE.trans hb; replace hX97 := hX97.trans hb; replace zb := BoxAt.ext hb zb; replace rb := rb.ext hb; have hs202 := hb.size; clear hb
      refine ⟨_, rfl, ?_⟩
      refine pT (.tuple #[.agg #[.int .i64 b1, .int .i64 b2], .int .i64 lk9, .bool is9, .int .i64 0]) ?_
      refine pT (.agg #[.int .i64 b1, .int .i64 b2]) ?_
      refine pT (.int .i64 lk9) ?_
      refine pT (.bool is9) ?_
      refine pT (.int .i64 0) ?_
      refine pS (sn_new (us := #[.int .i64 0, .int .i64 0]) (t := 26) (by kernel_rfl) ?_)
      intro O203 X204 hO hOs hb hbx
      have hzO203 := hO; have hyO203 := hOs; clear hO hOs
      have bO203_0 : BoxAt X204 O203 0 (.int .i64 0) := hbx 0 _ rfl
      have bO203_1 : BoxAt X204 O203 1 (.int .i64 0) := hbx 1 _ rfl
      clear hbx; replace hE := hE.trans hb; replace hX97 := hX97.trans hb; replace zb := BoxAt.ext hb zb; replace rb := rb.ext hb; have hs205 := hb.size; clear hb; have lt206 := bO203_0.lt
      refine pl_put rfl (by kernel_rfl) (by kernel_rfl) (sn_set2 (O := O203) (j := 0) (v := .int .i64 b1) (v' := .int .i64 b2) (ex_store (p := .pointer (some ⟨O203, 0, none⟩)) (v := .agg #[.int .i64 b1, .int .i64 b2]) rfl (by kernel_rfl) (by kernel_rfl) (st26 bO203_0.1 bO203_0.2 bO203_1.1 bO203_1.2)) bO203_0 bO203_1 ?_)
      intro X207 ho hv0 hv1 hk
      replace hE := ho.ext hE (T (T hs3 (T hs7 (T hs11 (T hs15 (T hs17 (T hs20 (T hs23 (T hs26 (T hs29 (T hs32 (T hn66 (T hs73 (T hs82 (T hs86 (T hs89 (T hs98 hs202)))))))))))))))) (Nat.le_of_eq hzO203)); replace hX97 := ho.ext hX97 (T (T hs73 (T hs82 (T hs86 (T hs89 (T hs98 hs202))))) (Nat.le_of_eq hzO203)); replace zb := ho.box (Nat.ne_of_gt (Nat.lt_of_lt_of_le lt87 (T (T hs89 (T hs98 hs202)) (Nat.le_of_eq hzO203)))) zb; replace rb := ho.rows (Nat.ne_of_gt (Nat.lt_of_lt_of_le lt200 (T hs202 (Nat.le_of_eq hzO203)))) rb
      have hs208 : X204.heap.size ≤ X207.heap.size := Nat.le_of_eq ho.size.symm
      clear ho hk bO203_0 bO203_1
      have bO203_0 := hv0; clear hv0
      have bO203_1 := hv1; clear hv1
      refine pT (.int .i64 lk9) ?_
      refine pT (.bool is9) ?_
      refine pT (.int .i64 0) ?_
      refine pl_nil ?_; refine qw_then ?_
      refine cw_clean [6, 15, 16, 18, 19, 20, 21, 24, 25, 26, 27] (ws' := [(6, .bool track), (15, .bool true), (16, .pointer (some ⟨O18, 0, none⟩)), (18, .int .i64 (((pk34 : Nat) : Int) : Int)), (19, .int .i64 (s.2 - s.1 : Int)), (20, .pointer (some ⟨O41, 0, none⟩)), (21, .pointer (some ⟨O84, 0, none⟩)), (24, .pointer (some ⟨O203, 0, none⟩)), (25, .int .i64 lk9), (26, .bool is9), (27, .int .i64 0)]) (by kernel_rfl) (fun L => ?_)
      refine cw_seq ?_; refine cw_seq ?_
      rcases hbi with ⟨rfl, rfl, rfl, rfl, hno⟩ | ⟨rfl, hb0, hb9, hb8, hlk0, hlk1, hsh9, hno, hno2⟩
      ·
        have htf : track = false := by
          cases htt : track
          · rfl
          · have h9 := htr htt
            have h8 := hno s.1 lz (by omega) (by omega) h9.1 h9.2.1
            rw [show (s.1, s.1 + (s.2 - s.1)) = s by rw [show s.1 + (s.2 - s.1) = s.2 by omega]] at h8
            rw [h8] at h9; cases h9.2.2
        subst htf
        have hX209 : Ext X207 X207 := Ext.refl _
        refine cw_plain ?_
        refine pT (.int .i64 0) ?_
        refine pT (.bool false) ?_
        refine pT (.bool false) ?_
        refine pT (.bool false) ?_
        refine pT (.bool false) ?_
        refine pl_skip rfl (by kernel_rfl) (by kernel_rfl) (by kernel_rfl) ?_
        refine pl_skip rfl (by kernel_rfl) (by kernel_rfl) (by kernel_rfl) ?_
        refine pT (.bool false) ?_
        refine pT (.bool false) ?_
        refine pl_nil ?_; refine qw_then ?_
        refine cw_clean [15, 16, 18, 19, 20, 21, 24, 25, 26, 97] (ws' := [(15, .bool true), (16, .pointer (some ⟨O18, 0, none⟩)), (18, .int .i64 (((pk34 : Nat) : Int) : Int)), (19, .int .i64 (s.2 - s.1 : Int)), (20, .pointer (some ⟨O41, 0, none⟩)), (21, .pointer (some ⟨O84, 0, none⟩)), (24, .pointer (some ⟨O203, 0, none⟩)), (25, .int .i64 0), (26, .bool false), (97, .bool false)]) (by kernel_rfl) (fun L => ?_)
        refine cw_f (by kernel_rfl) ?_
        refine cw_skip ?_
        refine qw_then ?_; refine cw_seq ?_; refine cw_seq ?_; refine cw_plain ?_
        refine pT (.bool false) ?_
        refine pT (.bool false) ?_
        refine pl_skip rfl (by kernel_rfl) (by kernel_rfl) (by kernel_rfl) ?_
        refine pl_skip rfl (by kernel_rfl) (by kernel_rfl) (by kernel_rfl) ?_
        refine pl_skip rfl (by kernel_rfl) (by kernel_rfl) (by kernel_rfl) ?_
        refine pl_skip rfl (by kernel_rfl) (by kernel_rfl) (by kernel_rfl) ?_
        refine pl_skip rfl (by kernel_rfl) (by kernel_rfl) (by kernel_rfl) ?_
        refine pl_skip rfl (by kernel_rfl) (by kernel_rfl) (by kernel_rfl) ?_
        refine pl_skip rfl (by kernel_rfl) (by kernel_rfl) (by kernel_rfl) ?_
        refine pl_skip rfl (by kernel_rfl) (by kernel_rfl) (by kernel_rfl) ?_
        refine pl_skip rfl (by kernel_rfl) (by kernel_rfl) (by kernel_rfl) ?_
        refine pl_skip rfl (by kernel_rfl) (by kernel_rfl) (by kernel_rfl) ?_
        refine pl_skip rfl (by kernel_rfl) (by kernel_rfl) (by kernel_rfl) ?_
        refine pl_skip rfl (by kernel_rfl) (by kernel_rfl) (by kernel_rfl) ?_
        refine pl_skip rfl (by kernel_rfl) (by kernel_rfl) (by kernel_rfl) ?_
        refine pl_skip rfl (by kernel_rfl) (by kernel_rfl) (by kernel_rfl) ?_
        refine pl_skip rfl (by kernel_rfl) (by kernel_rfl) (by kernel_rfl) ?_
        refine pl_skip rfl (by kernel_rfl) (by kernel_rfl) (by kernel_rfl) ?_
        refine pl_skip rfl (by kernel_rfl) (by kernel_rfl) (by kernel_rfl) ?_
        refine pl_skip rfl (by kernel_rfl) (by kernel_rfl) (by kernel_rfl) ?_
        refine pl_skip rfl (by kernel_rfl) (by kernel_rfl) (by kernel_rfl) ?_
        refine pl_skip rfl (by kernel_rfl) (by kernel_rfl) (by kernel_rfl) ?_
        refine pl_skip rfl (by kernel_rfl) (by kernel_rfl) (by kernel_rfl) ?_
        refine pl_skip rfl (by kernel_rfl) (by kernel_rfl) (by kernel_rfl) ?_
        refine pl_skip rfl (by kernel_rfl) (by kernel_rfl) (by kernel_rfl) ?_
        refine pl_skip rfl (by kernel_rfl) (by kernel_rfl) (by kernel_rfl) ?_
        refine pl_skip rfl (by kernel_rfl) (by kernel_rfl) (by kernel_rfl) ?_
        refine pl_skip rfl (by kernel_rfl) (by kernel_rfl) (by kernel_rfl) ?_
        refine pl_skip rfl (by kernel_rfl) (by kernel_rfl) (by kernel_rfl) ?_
        refine pl_skip rfl (by kernel_rfl) (by kernel_rfl) (by kernel_rfl) ?_
        refine pl_skip rfl (by kernel_rfl) (by kernel_rfl) (by kernel_rfl) ?_
        refine pl_skip rfl (by kernel_rfl) (by kernel_rfl) (by kernel_rfl) ?_
        refine pl_skip rfl (by kernel_rfl) (by kernel_rfl) (by kernel_rfl) ?_
        refine pl_skip rfl (by kernel_rfl) (by kernel_rfl) (by kernel_rfl) ?_
        refine pl_skip rfl (by kernel_rfl) (by kernel_rfl) (by kernel_rfl) ?_
        refine pl_skip rfl (by kernel_rfl) (by kernel_rfl) (by kernel_rfl) ?_
        refine pl_skip rfl (by kernel_rfl) (by kernel_rfl) (by kernel_rfl) ?_
        refine pl_skip rfl (by kernel_rfl) (by kernel_rfl) (by kernel_rfl) ?_
        refine pl_skip rfl (by kernel_rfl) (by kernel_rfl) (by kernel_rfl) ?_
        refine pl_skip rfl (by kernel_rfl) (by kernel_rfl) (by kernel_rfl) ?_
        refine pl_skip rfl (by kernel_rfl) (by kernel_rfl) (by kernel_rfl) ?_
        refine pl_skip rfl (by kernel_rfl) (by kernel_rfl) (by kernel_rfl) ?_
        refine pT (.bool false) ?_
        refine pl_nil ?_; refine qw_then ?_
        refine cw_clean [15, 16, 18, 19, 20, 21, 24, 25, 26, 140] (ws' := [(15, .bool true), (16, .pointer (some ⟨O18, 0, none⟩)), (18, .int .i64 (((pk34 : Nat) : Int) : Int)), (19, .int .i64 (s.2 - s.1 : Int)), (20, .pointer (some ⟨O41, 0, none⟩)), (21, .pointer (some ⟨O84, 0, none⟩)), (24, .pointer (some ⟨O203, 0, none⟩)), (25, .int .i64 0), (26, .bool false), (140, .bool false)]) (by kernel_rfl) (fun L => ?_)
        refine cw_f (by kernel_rfl) ?_
        refine cw_skip ?_
        refine qw_then ?_; refine cw_seq ?_; refine cw_seq ?_; refine cw_plain ?_
        refine pT (.bool false) ?_
        refine pT (.bool true) ?_
        refine pT (.bool true) ?_
        refine pl_take (.agg #[.int .i64 0, .int .i64 0]) rfl (by kernel_rfl) (by kernel_rfl) (by kernel_rfl) (ex_load rfl (by kernel_rfl) (ld26 (bO203_0.1) (bO203_1.1))) ?_
        refine pT (.agg #[.int .i64 0, .int .i64 0]) ?_
        refine pT (.bool false) ?_
        refine pT (.bool false) ?_
        refine pT (.int .i64 0) ?_
        refine pT (.bool false) ?_
        refine pT (.bool false) ?_
        refine pT (.bool false) ?_
        refine pl_nil ?_; refine qw_then ?_
        refine cw_clean [15, 16, 18, 19, 20, 21, 24, 25, 26, 151] (ws' := [(15, .bool true), (16, .pointer (some ⟨O18, 0, none⟩)), (18, .int .i64 (((pk34 : Nat) : Int) : Int)), (19, .int .i64 (s.2 - s.1 : Int)), (20, .pointer (some ⟨O41, 0, none⟩)), (21, .pointer (some ⟨O84, 0, none⟩)), (24, .pointer (some ⟨O203, 0, none⟩)), (25, .int .i64 0), (26, .bool false), (151, .bool false)]) (by kernel_rfl) (fun L => ?_)
        refine cw_f (by kernel_rfl) ?_
        refine cw_skip ?_
        refine qw_then ?_; refine cw_seq ?_; refine cw_seq ?_; refine cw_plain ?_
        refine pT (.pointer (some ⟨O41, 0, none⟩)) ?_
        refine pl_take (.int .i64 sp.1) rfl (by kernel_rfl) (by kernel_rfl) (by kernel_rfl) (ex_load rfl (by kernel_rfl) (ld3 ((BoxAt.ext (hX97.trans hX209) bO41_0).1))) ?_
        refine pl_take (.int .i64 (sp.1 + ((0 : Nat) : Int) : Int)) rfl (by kernel_rfl) (by kernel_rfl) (by kernel_rfl) (ev_int (show _ = Result.ok (Next.value (Value.int .i64 sp.1)) _ from by kernel_rfl) (by omega)) ?_
        refine pl_nil ?_; refine qw_then ?_
        refine cw_block ?_
        refine cw_loop [15, 16, 18, 19, 20, 21, 24, 25, 26, 28] (fun ws' wr m => ∃ j : Nat, ws' = [(15, .bool true), (16, .pointer (some ⟨O18, 0, none⟩)), (18, .int .i64 (((pk34 : Nat) : Int) : Int)), (19, .int .i64 (s.2 - s.1 : Int)), (20, .pointer (some ⟨O41, 0, none⟩)), (21, .pointer (some ⟨O84, 0, none⟩)), (24, .pointer (some ⟨O203, 0, none⟩)), (25, .int .i64 0), (26, .bool false), (28, .int .i64 (sp.1 + ((j : Nat) : Int) : Int))] ∧ m = (sp.2 - sp.1 - (s.2 - s.1) + 1).toNat - j ∧ X207.heap.size ≤ wr.heap.size ∧ Ext w wr ∧ Ext X207 wr ∧ j ≤ (sp.2 - sp.1 - (s.2 - s.1) + 1).toNat) (ws0 := [(15, .bool true), (16, .pointer (some ⟨O18, 0, none⟩)), (18, .int .i64 (((pk34 : Nat) : Int) : Int)), (19, .int .i64 (s.2 - s.1 : Int)), (20, .pointer (some ⟨O41, 0, none⟩)), (21, .pointer (some ⟨O84, 0, none⟩)), (24, .pointer (some ⟨O203, 0, none⟩)), (25, .int .i64 0), (26, .bool false), (28, .int .i64 (sp.1 + ((0 : Nat) : Int) : Int))]) (by kernel_rfl) _ ⟨0, rfl, rfl, Nat.le_refl _, hE, hX209, Nat.zero_le _⟩ ?_
        clear hE hX209
        rintro m212 L ws w211 ⟨j, rfl, rfl, hs210, hE, hX209, hj⟩
        by_cases hlt : j < (sp.2 - sp.1 - (s.2 - s.1) + 1).toNat
        ·
          refine cw_seq ?_; refine cw_seq ?_; refine cw_plain ?_
          refine pT (.int .i64 (sp.1 + ((j : Nat) : Int) : Int)) ?_
          refine pT (.int .i64 (s.2 - s.1 : Int)) ?_
          refine pl_take (.int .i64 ((sp.1 + ((j : Nat) : Int)) + (s.2 - s.1) : Int)) rfl (by kernel_rfl) (by kernel_rfl) (by kernel_rfl) (ev_wrap (by kernel_rfl) (by omega) (by omega)) ?_
          refine pT (.pointer (some ⟨O41, 1, none⟩)) ?_
          refine pl_take (.int .i64 sp.2) rfl (by kernel_rfl) (by kernel_rfl) (by kernel_rfl) (ex_load rfl (by kernel_rfl) (ld3 ((BoxAt.ext (hX97.trans hX209) bO41_1).1))) ?_
          refine pl_take (.bool true) rfl (by kernel_rfl) (by kernel_rfl) (by kernel_rfl) (ev_dec (show _ = Result.ok (Next.value (Value.bool (decide (((sp.1 + ((j : Nat) : Int)) + (s.2 - s.1) : Int) ≤ (sp.2 : Int))))) _ from by kernel_rfl) (by omega)) ?_
          refine pl_nil ?_; refine qw_then ?_
          refine cw_clean [15, 16, 18, 19, 20, 21, 24, 25, 26, 28, 159] (ws' := [(15, .bool true), (16, .pointer (some ⟨O18, 0, none⟩)), (18, .int .i64 (((pk34 : Nat) : Int) : Int)), (19, .int .i64 (s.2 - s.1 : Int)), (20, .pointer (some ⟨O41, 0, none⟩)), (21, .pointer (some ⟨O84, 0, none⟩)), (24, .pointer (some ⟨O203, 0, none⟩)), (25, .int .i64 0), (26, .bool false), (28, .int .i64 (sp.1 + ((j : Nat) : Int) : Int)), (159, .bool true)]) (by kernel_rfl) (fun L => ?_)
          refine cw_t (by kernel_rfl) ?_
          refine cw_skip ?_
          refine qw_then ?_; refine cw_seq ?_
          refine cw_block ?_
          refine cw_seq ?_; refine cw_seq ?_
          have hlt9 := hlt; clear hlt
          refine cw_plain ?_
          refine pT (.bool false) ?_
          refine pT (.bool false) ?_
          refine pl_skip rfl (by kernel_rfl) (by kernel_rfl) (by kernel_rfl) ?_
          refine pl_skip rfl (by kernel_rfl) (by kernel_rfl) (by kernel_rfl) ?_
          refine pl_skip rfl (by kernel_rfl) (by kernel_rfl) (by kernel_rfl) ?_
          refine pl_skip rfl (by kernel_rfl) (by kernel_rfl) (by kernel_rfl) ?_
          refine pT (.bool false) ?_
          refine pl_nil ?_; refine qw_then ?_
          refine cw_clean [15, 16, 18, 19, 20, 21, 24, 25, 26, 28, 168] (ws' := [(15, .bool true), (16, .pointer (some ⟨O18, 0, none⟩)), (18, .int .i64 (((pk34 : Nat) : Int) : Int)), (19, .int .i64 (s.2 - s.1 : Int)), (20, .pointer (some ⟨O41, 0, none⟩)), (21, .pointer (some ⟨O84, 0, none⟩)), (24, .pointer (some ⟨O203, 0, none⟩)), (25, .int .i64 0), (26, .bool false), (28, .int .i64 (sp.1 + ((j : Nat) : Int) : Int)), (168, .bool false)]) (by kernel_rfl) (fun L => ?_)
          refine cw_f (by kernel_rfl) ?_
          refine cw_skip ?_
          refine qw_then ?_; refine cw_seq ?_; refine cw_plain ?_
          refine pT (.int .i64 (((pk34 : Nat) : Int) : Int)) ?_
          refine pl_take (.int .i64 (-(((pk34 : Nat) : Int)) : Int)) rfl (by kernel_rfl) (by kernel_rfl) (by kernel_rfl) (ev_int (ev_wrap (a := 0 - (((pk34 : Nat) : Int))) (by kernel_rfl) (by omega) (by omega)) (by omega)) ?_
          refine pl_take (.int .i64 (-((pk34 : Nat) : Int) + ((0 : Nat) : Int) : Int)) rfl (by kernel_rfl) (by kernel_rfl) (by kernel_rfl) (ev_int (show _ = Result.ok (Next.value (Value.int .i64 (-((pk34 : Nat) : Int)))) _ from by kernel_rfl) (by omega)) ?_
          refine pl_nil ?_; refine qw_then ?_
          refine cw_block ?_
          have hX213 : Ext w211 w211 := Ext.refl _
          refine cw_loop [15, 16, 18, 19, 20, 21, 24, 25, 26, 28, 29] (fun ws' wr m => ∃ q : Nat, ws' = [(15, .bool true), (16, .pointer (some ⟨O18, 0, none⟩)), (18, .int .i64 (((pk34 : Nat) : Int) : Int)), (19, .int .i64 (s.2 - s.1 : Int)), (20, .pointer (some ⟨O41, 0, none⟩)), (21, .pointer (some ⟨O84, 0, none⟩)), (24, .pointer (some ⟨O203, 0, none⟩)), (25, .int .i64 0), (26, .bool false), (28, .int .i64 (sp.1 + ((j : Nat) : Int) : Int)), (29, .int .i64 (-((pk34 : Nat) : Int) + ((q : Nat) : Int) : Int))] ∧ m = 2 * pk34 + 1 - q ∧ w211.heap.size ≤ wr.heap.size ∧ Ext w wr ∧ Ext w211 wr ∧ q ≤ 2 * pk34 + 1) (ws0 := [(15, .bool true), (16, .pointer (some ⟨O18, 0, none⟩)), (18, .int .i64 (((pk34 : Nat) : Int) : Int)), (19, .int .i64 (s.2 - s.1 : Int)), (20, .pointer (some ⟨O41, 0, none⟩)), (21, .pointer (some ⟨O84, 0, none⟩)), (24, .pointer (some ⟨O203, 0, none⟩)), (25, .int .i64 0), (26, .bool false), (28, .int .i64 (sp.1 + ((j : Nat) : Int) : Int)), (29, .int .i64 (-((pk34 : Nat) : Int) + ((0 : Nat) : Int) : Int))]) (by kernel_rfl) _ ⟨0, rfl, rfl, Nat.le_refl _, hE, hX213, Nat.zero_le _⟩ ?_
          clear hE hX213
          rintro m216 L ws w215 ⟨q, rfl, rfl, hs214, hE, hX213, hq⟩
          by_cases hlt : q < 2 * pk34 + 1
          ·
            refine cw_seq ?_; refine cw_seq ?_; refine cw_plain ?_
            refine pT (.int .i64 (-((pk34 : Nat) : Int) + ((q : Nat) : Int) : Int)) ?_
            refine pT (.int .i64 (((pk34 : Nat) : Int) : Int)) ?_
            refine pl_take (.bool true) rfl (by kernel_rfl) (by kernel_rfl) (by kernel_rfl) (ev_dec (show _ = Result.ok (Next.value (Value.bool (decide ((-((pk34 : Nat) : Int) + ((q : Nat) : Int) : Int) ≤ (((pk34 : Nat) : Int) : Int))))) _ from by kernel_rfl) (by omega)) ?_
            refine pl_nil ?_; refine qw_then ?_
            refine cw_t (by kernel_rfl) ?_
            refine cw_skip ?_
            refine qw_then ?_; refine cw_seq ?_
            refine cw_block ?_
            refine cw_seq ?_; refine cw_seq ?_; refine cw_plain ?_
            refine pT (.bool false) ?_
            refine pT (.bool false) ?_
            refine pl_skip rfl (by kernel_rfl) (by kernel_rfl) (by kernel_rfl) ?_
            refine pl_skip rfl (by kernel_rfl) (by kernel_rfl) (by kernel_rfl) ?_
            refine pl_skip rfl (by kernel_rfl) (by kernel_rfl) (by kernel_rfl) ?_
            refine pl_skip rfl (by kernel_rfl) (by kernel_rfl) (by kernel_rfl) ?_
            refine pT (.bool false) ?_
            refine pT (.bool false) ?_
            refine pl_skip rfl (by kernel_rfl) (by kernel_rfl) (by kernel_rfl) ?_
            refine pl_skip rfl (by kernel_rfl) (by kernel_rfl) (by kernel_rfl) ?_
            refine pl_skip rfl (by kernel_rfl) (by kernel_rfl) (by kernel_rfl) ?_
            refine pl_skip rfl (by kernel_rfl) (by kernel_rfl) (by kernel_rfl) ?_
            refine pl_skip rfl (by kernel_rfl) (by kernel_rfl) (by kernel_rfl) ?_
            refine pl_skip rfl (by kernel_rfl) (by kernel_rfl) (by kernel_rfl) ?_
            refine pl_skip rfl (by kernel_rfl) (by kernel_rfl) (by kernel_rfl) ?_
            refine pl_skip rfl (by kernel_rfl) (by kernel_rfl) (by kernel_rfl) ?_
            refine pl_skip rfl (by kernel_rfl) (by kernel_rfl) (by kernel_rfl) ?_
            refine pT (.bool false) ?_
            refine pT (.bool false) ?_
            refine pl_skip rfl (by kernel_rfl) (by kernel_rfl) (by kernel_rfl) ?_
            refine pl_skip rfl (by kernel_rfl) (by kernel_rfl) (by kernel_rfl) ?_
            refine pl_skip rfl (by kernel_rfl) (by kernel_rfl) (by kernel_rfl) ?_
            refine pT (.bool false) ?_
            refine pl_nil ?_; refine qw_then ?_
            refine cw_clean [15, 16, 18, 19, 20, 21, 24, 25, 26, 28, 29, 198] (ws' := [(15, .bool true), (16, .pointer (some ⟨O18, 0, none⟩)), (18, .int .i64 (((pk34 : Nat) : Int) : Int)), (19, .int .i64 (s.2 - s.1 : Int)), (20, .pointer (some ⟨O41, 0, none⟩)), (21, .pointer (some ⟨O84, 0, none⟩)), (24, .pointer (some ⟨O203, 0, none⟩)), (25, .int .i64 0), (26, .bool false), (28, .int .i64 (sp.1 + ((j : Nat) : Int) : Int)), (29, .int .i64 (-((pk34 : Nat) : Int) + ((q : Nat) : Int) : Int)), (198, .bool false)]) (by kernel_rfl) (fun L => ?_)
            refine cw_f (by kernel_rfl) ?_
            refine cw_skip ?_
            refine qw_then ?_; refine cw_seq ?_; refine cw_seq ?_; refine cw_plain ?_
            refine pT (.bool false) ?_
            refine pT (.bool false) ?_
            refine pl_skip rfl (by kernel_rfl) (by kernel_rfl) (by kernel_rfl) ?_
            refine pl_skip rfl (by kernel_rfl) (by kernel_rfl) (by kernel_rfl) ?_
            refine pl_skip rfl (by kernel_rfl) (by kernel_rfl) (by kernel_rfl) ?_
            refine pl_skip rfl (by kernel_rfl) (by kernel_rfl) (by kernel_rfl) ?_
            refine pT (.bool false) ?_
            refine pT (.bool false) ?_
            refine pl_skip rfl (by kernel_rfl) (by kernel_rfl) (by kernel_rfl) ?_
            refine pl_skip rfl (by kernel_rfl) (by kernel_rfl) (by kernel_rfl) ?_
            refine pl_skip rfl (by kernel_rfl) (by kernel_rfl) (by kernel_rfl) ?_
            refine pl_skip rfl (by kernel_rfl) (by kernel_rfl) (by kernel_rfl) ?_
            refine pl_skip rfl (by kernel_rfl) (by kernel_rfl) (by kernel_rfl) ?_
            refine pl_skip rfl (by kernel_rfl) (by kernel_rfl) (by kernel_rfl) ?_
            refine pl_skip rfl (by kernel_rfl) (by kernel_rfl) (by kernel_rfl) ?_
            refine pl_skip rfl (by kernel_rfl) (by kernel_rfl) (by kernel_rfl) ?_
            refine pl_skip rfl (by kernel_rfl) (by kernel_rfl) (by kernel_rfl) ?_
            refine pT (.bool false) ?_
            refine pl_nil ?_; refine qw_then ?_
            refine cw_clean [15, 16, 18, 19, 20, 21, 24, 25, 26, 28, 29, 216] (ws' := [(15, .bool true), (16, .pointer (some ⟨O18, 0, none⟩)), (18, .int .i64 (((pk34 : Nat) : Int) : Int)), (19, .int .i64 (s.2 - s.1 : Int)), (20, .pointer (some ⟨O41, 0, none⟩)), (21, .pointer (some ⟨O84, 0, none⟩)), (24, .pointer (some ⟨O203, 0, none⟩)), (25, .int .i64 0), (26, .bool false), (28, .int .i64 (sp.1 + ((j : Nat) : Int) : Int)), (29, .int .i64 (-((pk34 : Nat) : Int) + ((q : Nat) : Int) : Int)), (216, .bool false)]) (by kernel_rfl) (fun L => ?_)
            refine cw_f (by kernel_rfl) ?_
            refine cw_skip ?_
            refine qw_then ?_; refine cw_seq ?_; refine cw_plain ?_
            have hY217 := hX97.trans hX209
            have hY218 := hX24.trans hY217
            refine pl_take (.agg #[.int .i64 o.p, .int .i64 o.f, .int .i64 o.lo, .int .i64 o.hi, .int .i64 o.nd, .int .i64 o.tn, .int .i64 o.sl]) rfl (by kernel_rfl) (by kernel_rfl) (by kernel_rfl) (ex_load rfl (by kernel_rfl) (ld24 ((BoxAt.ext (hY218.trans hX213) bO18_0).1) ((BoxAt.ext (hY218.trans hX213) bO18_1).1) ((BoxAt.ext (hY218.trans hX213) bO18_2).1) ((BoxAt.ext (hY218.trans hX213) bO18_3).1) ((BoxAt.ext (hY218.trans hX213) bO18_4).1) ((BoxAt.ext (hY218.trans hX213) bO18_5).1) ((BoxAt.ext (hY218.trans hX213) bO18_6).1))) ?_
            refine pT (.int .i64 (sp.1 + ((j : Nat) : Int) : Int)) ?_
            refine pT (.int .i64 (sp.1 + ((j : Nat) : Int) : Int)) ?_
            refine pT (.int .i64 (s.2 - s.1 : Int)) ?_
            refine pl_take (.int .i64 ((sp.1 + ((j : Nat) : Int)) + (s.2 - s.1) : Int)) rfl (by kernel_rfl) (by kernel_rfl) (by kernel_rfl) (ev_wrap (by kernel_rfl) (by omega) (by omega)) ?_
            refine pT (.agg #[.int .i64 (sp.1 + ((j : Nat) : Int) : Int), .int .i64 ((sp.1 + ((j : Nat) : Int)) + (s.2 - s.1) : Int)]) ?_
            refine pT (.int .i64 (-((pk34 : Nat) : Int) + ((q : Nat) : Int) : Int)) ?_
            refine pl_take (.agg #[.slice (some ⟨B9, 0, none⟩) 24 k9]) rfl (by kernel_rfl) (by kernel_rfl) (by kernel_rfl) (ex_load rfl (by kernel_rfl) (ld31 ((BoxAt.ext (hX209.trans hX213) zb).1))) ?_
            refine pS (sn_call (f := 24) (args := #[.agg #[.int .i64 o.p, .int .i64 o.f, .int .i64 o.lo, .int .i64 o.hi, .int .i64 o.nd, .int .i64 o.tn, .int .i64 o.sl], .agg #[.int .i64 (sp.1 + ((j : Nat) : Int) : Int), .int .i64 ((sp.1 + ((j : Nat) : Int)) + (s.2 - s.1) : Int)], .int .i64 (-((pk34 : Nat) : Int) + ((q : Nat) : Int) : Int), .agg #[.slice (some ⟨B9, 0, none⟩) 24 k9]]) (by kernel_rfl) ((Shows_r (s := (sp.1 + ((j : Nat) : Int), (sp.1 + ((j : Nat) : Int)) + (s.2 - s.1))) (r := false) _ _ (RowsAt.va (rb.ext (hX209.trans hX213)) (hvl9)).aa (Ext.refl _) (by first | exact hno _ _ (by omega) (by omega) (by omega) (by omega))).mono ?_))
            rintro e w219 ⟨rfl, hb⟩
            replace hE := hE.trans hb; replace hX213 := hX213.trans hb; have hs220 := hb.size; clear hb
            refine ⟨_, rfl, ?_⟩
            refine pl_nil ?_; refine qw_then ?_
            refine cw_clean [15, 16, 18, 19, 20, 21, 24, 25, 26, 28, 29, 225] (ws' := [(15, .bool true), (16, .pointer (some ⟨O18, 0, none⟩)), (18, .int .i64 (((pk34 : Nat) : Int) : Int)), (19, .int .i64 (s.2 - s.1 : Int)), (20, .pointer (some ⟨O41, 0, none⟩)), (21, .pointer (some ⟨O84, 0, none⟩)), (24, .pointer (some ⟨O203, 0, none⟩)), (25, .int .i64 0), (26, .bool false), (28, .int .i64 (sp.1 + ((j : Nat) : Int) : Int)), (29, .int .i64 (-((pk34 : Nat) : Int) + ((q : Nat) : Int) : Int)), (225, .bool false)]) (by kernel_rfl) (fun L => ?_)
            refine cw_f (by kernel_rfl) ?_
            refine cw_skip ?_
            refine qw_block ?_
            refine qw_then ?_; refine cw_plain ?_
            refine pT (.int .i64 (-((pk34 : Nat) : Int) + ((q : Nat) : Int) : Int)) ?_
            refine pl_take (.int .i64 (-((pk34 : Nat) : Int) + ((q + 1 : Nat) : Int) : Int)) rfl (by kernel_rfl) (by kernel_rfl) (by kernel_rfl) (ev_int (ev_wrap (a := -((pk34 : Nat) : Int) + ((q : Nat) : Int) + 1) (by kernel_rfl) (by omega) (by omega)) (by omega)) ?_
            refine pT (.int .i64 (-((pk34 : Nat) : Int) + ((q + 1 : Nat) : Int) : Int)) ?_
            refine pl_nil ?_
            refine qw_round [15, 16, 18, 19, 20, 21, 24, 25, 26, 28, 29] (ws' := [(15, .bool true), (16, .pointer (some ⟨O18, 0, none⟩)), (18, .int .i64 (((pk34 : Nat) : Int) : Int)), (19, .int .i64 (s.2 - s.1 : Int)), (20, .pointer (some ⟨O41, 0, none⟩)), (21, .pointer (some ⟨O84, 0, none⟩)), (24, .pointer (some ⟨O203, 0, none⟩)), (25, .int .i64 0), (26, .bool false), (28, .int .i64 (sp.1 + ((j : Nat) : Int) : Int)), (29, .int .i64 (-((pk34 : Nat) : Int) + ((q + 1 : Nat) : Int) : Int))]) (by kernel_rfl) _ ?_ ⟨(q + 1), rfl, rfl, (T hs214 hs220), hE, hX213, by omega⟩
            omega
          ·
            refine cw_seq ?_; refine cw_seq ?_; refine cw_plain ?_
            refine pT (.int .i64 (-((pk34 : Nat) : Int) + ((q : Nat) : Int) : Int)) ?_
            refine pT (.int .i64 (((pk34 : Nat) : Int) : Int)) ?_
            refine pl_take (.bool false) rfl (by kernel_rfl) (by kernel_rfl) (by kernel_rfl) (ev_ndec (show _ = Result.ok (Next.value (Value.bool (decide ((-((pk34 : Nat) : Int) + ((q : Nat) : Int) : Int) ≤ (((pk34 : Nat) : Int) : Int))))) _ from by kernel_rfl) (by omega)) ?_
            refine pl_nil ?_; refine qw_then ?_
            refine cw_f (by kernel_rfl) ?_
            refine cw_exit ?_
            refine qw_then_exit ?_
            refine qw_then_exit ?_
            refine qw_block_out ?_
            refine qw_block ?_
            refine qw_then ?_; refine cw_plain ?_
            refine pT (.int .i64 (sp.1 + ((j : Nat) : Int) : Int)) ?_
            refine pl_take (.int .i64 (sp.1 + ((j + 1 : Nat) : Int) : Int)) rfl (by kernel_rfl) (by kernel_rfl) (by kernel_rfl) (ev_int (ev_wrap (a := sp.1 + ((j : Nat) : Int) + 1) (by kernel_rfl) (by omega) (by omega)) (by omega)) ?_
            refine pT (.int .i64 (sp.1 + ((j + 1 : Nat) : Int) : Int)) ?_
            refine pl_nil ?_
            refine qw_round [15, 16, 18, 19, 20, 21, 24, 25, 26, 28] (ws' := [(15, .bool true), (16, .pointer (some ⟨O18, 0, none⟩)), (18, .int .i64 (((pk34 : Nat) : Int) : Int)), (19, .int .i64 (s.2 - s.1 : Int)), (20, .pointer (some ⟨O41, 0, none⟩)), (21, .pointer (some ⟨O84, 0, none⟩)), (24, .pointer (some ⟨O203, 0, none⟩)), (25, .int .i64 0), (26, .bool false), (28, .int .i64 (sp.1 + ((j + 1 : Nat) : Int) : Int))]) (by kernel_rfl) _ ?_ ⟨(j + 1), rfl, rfl, (T hs210 hs214), hE, (hX209.trans hX213), by omega⟩
            omega
        ·
          refine cw_seq ?_; refine cw_seq ?_; refine cw_plain ?_
          refine pT (.int .i64 (sp.1 + ((j : Nat) : Int) : Int)) ?_
          refine pT (.int .i64 (s.2 - s.1 : Int)) ?_
          refine pl_take (.int .i64 ((sp.1 + ((j : Nat) : Int)) + (s.2 - s.1) : Int)) rfl (by kernel_rfl) (by kernel_rfl) (by kernel_rfl) (ev_wrap (by kernel_rfl) (by omega) (by omega)) ?_
          refine pT (.pointer (some ⟨O41, 1, none⟩)) ?_
          refine pl_take (.int .i64 sp.2) rfl (by kernel_rfl) (by kernel_rfl) (by kernel_rfl) (ex_load rfl (by kernel_rfl) (ld3 ((BoxAt.ext (hX97.trans hX209) bO41_1).1))) ?_
          refine pl_take (.bool false) rfl (by kernel_rfl) (by kernel_rfl) (by kernel_rfl) (ev_ndec (show _ = Result.ok (Next.value (Value.bool (decide (((sp.1 + ((j : Nat) : Int)) + (s.2 - s.1) : Int) ≤ (sp.2 : Int))))) _ from by kernel_rfl) (by omega)) ?_
          refine pl_nil ?_; refine qw_then ?_
          refine cw_clean [15, 16, 18, 19, 20, 21, 24, 25, 26, 28, 159] (ws' := [(15, .bool true), (16, .pointer (some ⟨O18, 0, none⟩)), (18, .int .i64 (((pk34 : Nat) : Int) : Int)), (19, .int .i64 (s.2 - s.1 : Int)), (20, .pointer (some ⟨O41, 0, none⟩)), (21, .pointer (some ⟨O84, 0, none⟩)), (24, .pointer (some ⟨O203, 0, none⟩)), (25, .int .i64 0), (26, .bool false), (28, .int .i64 (sp.1 + ((j : Nat) : Int) : Int)), (159, .bool false)]) (by kernel_rfl) (fun L => ?_)
          refine cw_f (by kernel_rfl) ?_
          refine cw_exit ?_
          refine qw_then_exit ?_
          refine qw_then_exit ?_
          refine qw_block_out ?_
          refine qw_then ?_; refine cw_seq ?_; refine cw_plain ?_
          refine pT (.bool true) ?_
          refine pT (.bool true) ?_
          refine pl_nil ?_; refine qw_then ?_
          refine cw_ret ?_
          refine qw_ret [.bool true] rfl ⟨(by kernel_rfl), trivial⟩ ?_
          exact ⟨rfl, hE⟩
      ·
        rcases Bool.eq_false_or_eq_true track with ht | ht
        ·
          subst ht
          have hX221 : Ext X207 X207 := Ext.refl _
          refine cw_plain ?_
          refine pT (.int .i64 0) ?_
          refine pT (.bool false) ?_
          refine pT (.bool false) ?_
          refine pT (.bool true) ?_
          refine pT (.bool true) ?_
          refine pT (.bool true) ?_
          refine pT (.bool false) ?_
          refine pT (.bool false) ?_
          refine pT (.bool false) ?_
          refine pl_nil ?_; refine qw_then ?_
          refine cw_clean [15, 16, 18, 19, 20, 21, 24, 25, 26, 97] (ws' := [(15, .bool true), (16, .pointer (some ⟨O18, 0, none⟩)), (18, .int .i64 (((pk34 : Nat) : Int) : Int)), (19, .int .i64 (s.2 - s.1 : Int)), (20, .pointer (some ⟨O41, 0, none⟩)), (21, .pointer (some ⟨O84, 0, none⟩)), (24, .pointer (some ⟨O203, 0, none⟩)), (25, .int .i64 lk9), (26, .bool true), (97, .bool false)]) (by kernel_rfl) (fun L => ?_)
          refine cw_f (by kernel_rfl) ?_
          refine cw_skip ?_
          refine qw_then ?_; refine cw_seq ?_; refine cw_seq ?_; refine cw_plain ?_
          refine pT (.bool true) ?_
          refine pT (.bool true) ?_
          refine pT (.pointer (some ⟨O203, 0, none⟩)) ?_
          refine pl_take (.int .i64 b1) rfl (by kernel_rfl) (by kernel_rfl) (by kernel_rfl) (ex_load rfl (by kernel_rfl) (ld3 (bO203_0.1))) ?_
          refine pT (.pointer (some ⟨O41, 0, none⟩)) ?_
          refine pl_take (.int .i64 sp.1) rfl (by kernel_rfl) (by kernel_rfl) (by kernel_rfl) (ex_load rfl (by kernel_rfl) (ld3 ((BoxAt.ext (hX97.trans hX221) bO41_0).1))) ?_
          refine pl_take (.bool false) rfl (by kernel_rfl) (by kernel_rfl) (by kernel_rfl) (ev_ndec (show _ = Result.ok (Next.value (Value.bool (decide ((b1 : Int) < (sp.1 : Int))))) _ from by kernel_rfl) (by omega)) ?_
          refine pT (.bool false) ?_
          refine pT (.pointer (some ⟨O203, 1, none⟩)) ?_
          refine pl_take (.int .i64 b2) rfl (by kernel_rfl) (by kernel_rfl) (by kernel_rfl) (ex_load rfl (by kernel_rfl) (ld3 (bO203_1.1))) ?_
          refine pT (.pointer (some ⟨O41, 1, none⟩)) ?_
          refine pl_take (.int .i64 sp.2) rfl (by kernel_rfl) (by kernel_rfl) (by kernel_rfl) (ex_load rfl (by kernel_rfl) (ld3 ((BoxAt.ext (hX97.trans hX221) bO41_1).1))) ?_
          refine pl_take (.bool false) rfl (by kernel_rfl) (by kernel_rfl) (by kernel_rfl) (ev_ndec (show _ = Result.ok (Next.value (Value.bool (decide ((b2 : Int) > (sp.2 : Int))))) _ from by kernel_rfl) (by omega)) ?_
          refine pT (.bool false) ?_
          refine pT (.bool false) ?_
          refine pT (.pointer (some ⟨O203, 1, none⟩)) ?_
          refine pl_take (.int .i64 b2) rfl (by kernel_rfl) (by kernel_rfl) (by kernel_rfl) (ex_load rfl (by kernel_rfl) (ld3 (bO203_1.1))) ?_
          refine pT (.pointer (some ⟨O203, 0, none⟩)) ?_
          refine pl_take (.int .i64 b1) rfl (by kernel_rfl) (by kernel_rfl) (by kernel_rfl) (ex_load rfl (by kernel_rfl) (ld3 (bO203_0.1))) ?_
          refine pl_take (.int .i64 (b2 - b1 : Int)) rfl (by kernel_rfl) (by kernel_rfl) (by kernel_rfl) (ev_wrap (by kernel_rfl) (by omega) (by omega)) ?_
          refine pT (.int .i64 (s.2 - s.1 : Int)) ?_
          refine pl_take (.bool false) rfl (by kernel_rfl) (by kernel_rfl) (by kernel_rfl) (ev_nne (show _ = Result.ok (Next.value (Value.bool ((b2 - b1 : Int) != (s.2 - s.1 : Int)))) _ from by kernel_rfl) (by omega)) ?_
          refine pT (.bool false) ?_
          refine pT (.bool false) ?_
          refine pT (.int .i64 lk9) ?_
          refine pT (.int .i64 (((pk34 : Nat) : Int) : Int)) ?_
          refine pl_take (.int .i64 (-(((pk34 : Nat) : Int)) : Int)) rfl (by kernel_rfl) (by kernel_rfl) (by kernel_rfl) (ev_int (ev_wrap (a := 0 - (((pk34 : Nat) : Int))) (by kernel_rfl) (by omega) (by omega)) (by omega)) ?_
          refine pl_take (.bool false) rfl (by kernel_rfl) (by kernel_rfl) (by kernel_rfl) (ev_ndec (show _ = Result.ok (Next.value (Value.bool (decide ((lk9 : Int) < (-(((pk34 : Nat) : Int)) : Int))))) _ from by kernel_rfl) (by omega)) ?_
          refine pT (.bool false) ?_
          refine pT (.bool false) ?_
          refine pT (.int .i64 lk9) ?_
          refine pT (.int .i64 (((pk34 : Nat) : Int) : Int)) ?_
          refine pl_take (.bool false) rfl (by kernel_rfl) (by kernel_rfl) (by kernel_rfl) (ev_ndec (show _ = Result.ok (Next.value (Value.bool (decide ((lk9 : Int) > (((pk34 : Nat) : Int) : Int))))) _ from by kernel_rfl) (by omega)) ?_
          refine pT (.bool false) ?_
          refine pT (.bool false) ?_
          have hY222 := hX24.trans hX97
          refine pl_take (.agg #[.int .i64 o.p, .int .i64 o.f, .int .i64 o.lo, .int .i64 o.hi, .int .i64 o.nd, .int .i64 o.tn, .int .i64 o.sl]) rfl (by kernel_rfl) (by kernel_rfl) (by kernel_rfl) (ex_load rfl (by kernel_rfl) (ld24 ((BoxAt.ext (hY222.trans hX221) bO18_0).1) ((BoxAt.ext (hY222.trans hX221) bO18_1).1) ((BoxAt.ext (hY222.trans hX221) bO18_2).1) ((BoxAt.ext (hY222.trans hX221) bO18_3).1) ((BoxAt.ext (hY222.trans hX221) bO18_4).1) ((BoxAt.ext (hY222.trans hX221) bO18_5).1) ((BoxAt.ext (hY222.trans hX221) bO18_6).1))) ?_
          refine pl_take (.agg #[.int .i64 b1, .int .i64 b2]) rfl (by kernel_rfl) (by kernel_rfl) (by kernel_rfl) (ex_load rfl (by kernel_rfl) (ld26 (bO203_0.1) (bO203_1.1))) ?_
          refine pT (.int .i64 lk9) ?_
          refine pl_take (.agg #[.slice (some ⟨B9, 0, none⟩) 24 k9]) rfl (by kernel_rfl) (by kernel_rfl) (by kernel_rfl) (ex_load rfl (by kernel_rfl) (ld31 (zb.1))) ?_
          refine pS (sn_call (f := 24) (args := #[.agg #[.int .i64 o.p, .int .i64 o.f, .int .i64 o.lo, .int .i64 o.hi, .int .i64 o.nd, .int .i64 o.tn, .int .i64 o.sl], .agg #[.int .i64 b1, .int .i64 b2], .int .i64 lk9, .agg #[.slice (some ⟨B9, 0, none⟩) 24 k9]]) (by kernel_rfl) ((Shows_r (s := (b1, b2)) (r := true) _ _ (RowsAt.va rb (hvl9)).aa (Ext.refl _) hsh9).mono ?_))
          rintro e w223 ⟨rfl, hb⟩
          replace hE := hE.trans hb; replace hX221 := hX221.trans hb; have hs224 := hb.size; clear hb
          refine ⟨_, rfl, ?_⟩
          refine pT (.bool false) ?_
          refine pT (.bool false) ?_
          refine pT (.bool false) ?_
          refine pl_nil ?_; refine qw_then ?_
          refine cw_clean [15, 16, 18, 19, 20, 21, 24, 25, 26, 140] (ws' := [(15, .bool true), (16, .pointer (some ⟨O18, 0, none⟩)), (18, .int .i64 (((pk34 : Nat) : Int) : Int)), (19, .int .i64 (s.2 - s.1 : Int)), (20, .pointer (some ⟨O41, 0, none⟩)), (21, .pointer (some ⟨O84, 0, none⟩)), (24, .pointer (some ⟨O203, 0, none⟩)), (25, .int .i64 lk9), (26, .bool true), (140, .bool false)]) (by kernel_rfl) (fun L => ?_)
          refine cw_f (by kernel_rfl) ?_
          refine cw_skip ?_
          refine qw_then ?_; refine cw_seq ?_; refine cw_seq ?_; refine cw_plain ?_
          refine pT (.bool true) ?_
          refine pT (.bool false) ?_
          refine pT (.bool false) ?_
          refine pl_skip rfl (by kernel_rfl) (by kernel_rfl) (by kernel_rfl) ?_
          refine pl_skip rfl (by kernel_rfl) (by kernel_rfl) (by kernel_rfl) ?_
          refine pl_skip rfl (by kernel_rfl) (by kernel_rfl) (by kernel_rfl) ?_
          refine pl_skip rfl (by kernel_rfl) (by kernel_rfl) (by kernel_rfl) ?_
          refine pl_skip rfl (by kernel_rfl) (by kernel_rfl) (by kernel_rfl) ?_
          refine pl_skip rfl (by kernel_rfl) (by kernel_rfl) (by kernel_rfl) ?_
          refine pl_skip rfl (by kernel_rfl) (by kernel_rfl) (by kernel_rfl) ?_
          refine pT (.bool false) ?_
          refine pl_nil ?_; refine qw_then ?_
          refine cw_clean [15, 16, 18, 19, 20, 21, 24, 25, 26, 151] (ws' := [(15, .bool true), (16, .pointer (some ⟨O18, 0, none⟩)), (18, .int .i64 (((pk34 : Nat) : Int) : Int)), (19, .int .i64 (s.2 - s.1 : Int)), (20, .pointer (some ⟨O41, 0, none⟩)), (21, .pointer (some ⟨O84, 0, none⟩)), (24, .pointer (some ⟨O203, 0, none⟩)), (25, .int .i64 lk9), (26, .bool true), (151, .bool false)]) (by kernel_rfl) (fun L => ?_)
          refine cw_f (by kernel_rfl) ?_
          refine cw_skip ?_
          refine qw_then ?_; refine cw_seq ?_; refine cw_seq ?_; refine cw_plain ?_
          refine pT (.pointer (some ⟨O41, 0, none⟩)) ?_
          refine pl_take (.int .i64 sp.1) rfl (by kernel_rfl) (by kernel_rfl) (by kernel_rfl) (ex_load rfl (by kernel_rfl) (ld3 ((BoxAt.ext (hX97.trans hX221) bO41_0).1))) ?_
          refine pl_take (.int .i64 (sp.1 + ((0 : Nat) : Int) : Int)) rfl (by kernel_rfl) (by kernel_rfl) (by kernel_rfl) (ev_int (show _ = Result.ok (Next.value (Value.int .i64 sp.1)) _ from by kernel_rfl) (by omega)) ?_
          refine pl_nil ?_; refine qw_then ?_
          refine cw_block ?_
          have hX225 : Ext w223 w223 := Ext.refl _
          refine cw_loop [15, 16, 18, 19, 20, 21, 24, 25, 26, 28] (fun ws' wr m => ∃ j : Nat, ws' = [(15, .bool true), (16, .pointer (some ⟨O18, 0, none⟩)), (18, .int .i64 (((pk34 : Nat) : Int) : Int)), (19, .int .i64 (s.2 - s.1 : Int)), (20, .pointer (some ⟨O41, 0, none⟩)), (21, .pointer (some ⟨O84, 0, none⟩)), (24, .pointer (some ⟨O203, 0, none⟩)), (25, .int .i64 lk9), (26, .bool true), (28, .int .i64 (sp.1 + ((j : Nat) : Int) : Int))] ∧ m = (sp.2 - sp.1 - (s.2 - s.1) + 1).toNat - j ∧ w223.heap.size ≤ wr.heap.size ∧ Ext w wr ∧ Ext w223 wr ∧ j ≤ (sp.2 - sp.1 - (s.2 - s.1) + 1).toNat) (ws0 := [(15, .bool true), (16, .pointer (some ⟨O18, 0, none⟩)), (18, .int .i64 (((pk34 : Nat) : Int) : Int)), (19, .int .i64 (s.2 - s.1 : Int)), (20, .pointer (some ⟨O41, 0, none⟩)), (21, .pointer (some ⟨O84, 0, none⟩)), (24, .pointer (some ⟨O203, 0, none⟩)), (25, .int .i64 lk9), (26, .bool true), (28, .int .i64 (sp.1 + ((0 : Nat) : Int) : Int))]) (by kernel_rfl) _ ⟨0, rfl, rfl, Nat.le_refl _, hE, hX225, Nat.zero_le _⟩ ?_
          clear hE hX225
          rintro m228 L ws w227 ⟨j, rfl, rfl, hs226, hE, hX225, hj⟩
          by_cases hlt : j < (sp.2 - sp.1 - (s.2 - s.1) + 1).toNat
          ·
            refine cw_seq ?_; refine cw_seq ?_; refine cw_plain ?_
            refine pT (.int .i64 (sp.1 + ((j : Nat) : Int) : Int)) ?_
            refine pT (.int .i64 (s.2 - s.1 : Int)) ?_
            refine pl_take (.int .i64 ((sp.1 + ((j : Nat) : Int)) + (s.2 - s.1) : Int)) rfl (by kernel_rfl) (by kernel_rfl) (by kernel_rfl) (ev_wrap (by kernel_rfl) (by omega) (by omega)) ?_
            refine pT (.pointer (some ⟨O41, 1, none⟩)) ?_
            have hY229 := hX97.trans hX221
            refine pl_take (.int .i64 sp.2) rfl (by kernel_rfl) (by kernel_rfl) (by kernel_rfl) (ex_load rfl (by kernel_rfl) (ld3 ((BoxAt.ext (hY229.trans hX225) bO41_1).1))) ?_
            refine pl_take (.bool true) rfl (by kernel_rfl) (by kernel_rfl) (by kernel_rfl) (ev_dec (show _ = Result.ok (Next.value (Value.bool (decide (((sp.1 + ((j : Nat) : Int)) + (s.2 - s.1) : Int) ≤ (sp.2 : Int))))) _ from by kernel_rfl) (by omega)) ?_
            refine pl_nil ?_; refine qw_then ?_
            refine cw_clean [15, 16, 18, 19, 20, 21, 24, 25, 26, 28, 159] (ws' := [(15, .bool true), (16, .pointer (some ⟨O18, 0, none⟩)), (18, .int .i64 (((pk34 : Nat) : Int) : Int)), (19, .int .i64 (s.2 - s.1 : Int)), (20, .pointer (some ⟨O41, 0, none⟩)), (21, .pointer (some ⟨O84, 0, none⟩)), (24, .pointer (some ⟨O203, 0, none⟩)), (25, .int .i64 lk9), (26, .bool true), (28, .int .i64 (sp.1 + ((j : Nat) : Int) : Int)), (159, .bool true)]) (by kernel_rfl) (fun L => ?_)
            refine cw_t (by kernel_rfl) ?_
            refine cw_skip ?_
            refine qw_then ?_; refine cw_seq ?_
            refine cw_block ?_
            refine cw_seq ?_; refine cw_seq ?_
            have hlt9 := hlt; clear hlt
            refine cw_plain ?_
            refine pT (.bool true) ?_
            refine pT (.bool true) ?_
            refine pT (.int .i64 (sp.1 + ((j : Nat) : Int) : Int)) ?_
            refine pT (.pointer (some ⟨O203, 0, none⟩)) ?_
            refine pl_take (.int .i64 b1) rfl (by kernel_rfl) (by kernel_rfl) (by kernel_rfl) (ex_load rfl (by kernel_rfl) (ld3 ((BoxAt.ext (hX221.trans hX225) bO203_0).1))) ?_
            by_cases hc230 : (sp.1 + ((j : Nat) : Int) : Int) > (b1 : Int)
            ·
              refine pl_take (.bool true) rfl (by kernel_rfl) (by kernel_rfl) (by kernel_rfl) (ev_dec (show _ = Result.ok (Next.value (Value.bool (decide ((sp.1 + ((j : Nat) : Int) : Int) > (b1 : Int))))) _ from by kernel_rfl) (hc230)) ?_
              refine pT (.bool true) ?_
              refine pl_nil ?_; refine qw_then ?_
              refine cw_clean [15, 16, 18, 19, 20, 21, 24, 25, 26, 28, 168] (ws' := [(15, .bool true), (16, .pointer (some ⟨O18, 0, none⟩)), (18, .int .i64 (((pk34 : Nat) : Int) : Int)), (19, .int .i64 (s.2 - s.1 : Int)), (20, .pointer (some ⟨O41, 0, none⟩)), (21, .pointer (some ⟨O84, 0, none⟩)), (24, .pointer (some ⟨O203, 0, none⟩)), (25, .int .i64 lk9), (26, .bool true), (28, .int .i64 (sp.1 + ((j : Nat) : Int) : Int)), (168, .bool true)]) (by kernel_rfl) (fun L => ?_)
              refine cw_t (by kernel_rfl) ?_
              refine cw_exit ?_
              refine qw_then_exit ?_
              refine qw_block_on (by decide) ?_
              refine qw_then_exit ?_
              refine qw_then_exit ?_
              refine qw_block_out ?_
              refine qw_then ?_; refine cw_seq ?_; refine cw_plain ?_
              refine pT (.bool true) ?_
              refine pT (.bool true) ?_
              refine pl_nil ?_; refine qw_then ?_
              refine cw_ret ?_
              refine qw_ret [.bool true] rfl ⟨(by kernel_rfl), trivial⟩ ?_
              exact ⟨rfl, hE⟩
            ·
              refine pl_take (.bool false) rfl (by kernel_rfl) (by kernel_rfl) (by kernel_rfl) (ev_ndec (show _ = Result.ok (Next.value (Value.bool (decide ((sp.1 + ((j : Nat) : Int) : Int) > (b1 : Int))))) _ from by kernel_rfl) (hc230)) ?_
              refine pT (.bool false) ?_
              refine pl_nil ?_; refine qw_then ?_
              refine cw_clean [15, 16, 18, 19, 20, 21, 24, 25, 26, 28, 168] (ws' := [(15, .bool true), (16, .pointer (some ⟨O18, 0, none⟩)), (18, .int .i64 (((pk34 : Nat) : Int) : Int)), (19, .int .i64 (s.2 - s.1 : Int)), (20, .pointer (some ⟨O41, 0, none⟩)), (21, .pointer (some ⟨O84, 0, none⟩)), (24, .pointer (some ⟨O203, 0, none⟩)), (25, .int .i64 lk9), (26, .bool true), (28, .int .i64 (sp.1 + ((j : Nat) : Int) : Int)), (168, .bool false)]) (by kernel_rfl) (fun L => ?_)
              refine cw_f (by kernel_rfl) ?_
              refine cw_skip ?_
              refine qw_then ?_; refine cw_seq ?_; refine cw_plain ?_
              refine pT (.int .i64 (((pk34 : Nat) : Int) : Int)) ?_
              refine pl_take (.int .i64 (-(((pk34 : Nat) : Int)) : Int)) rfl (by kernel_rfl) (by kernel_rfl) (by kernel_rfl) (ev_int (ev_wrap (a := 0 - (((pk34 : Nat) : Int))) (by kernel_rfl) (by omega) (by omega)) (by omega)) ?_
              refine pl_take (.int .i64 (-((pk34 : Nat) : Int) + ((0 : Nat) : Int) : Int)) rfl (by kernel_rfl) (by kernel_rfl) (by kernel_rfl) (ev_int (show _ = Result.ok (Next.value (Value.int .i64 (-((pk34 : Nat) : Int)))) _ from by kernel_rfl) (by omega)) ?_
              refine pl_nil ?_; refine qw_then ?_
              refine cw_block ?_
              have hX231 : Ext w227 w227 := Ext.refl _
              refine cw_loop [15, 16, 18, 19, 20, 21, 24, 25, 26, 28, 29] (fun ws' wr m => ∃ q : Nat, ws' = [(15, .bool true), (16, .pointer (some ⟨O18, 0, none⟩)), (18, .int .i64 (((pk34 : Nat) : Int) : Int)), (19, .int .i64 (s.2 - s.1 : Int)), (20, .pointer (some ⟨O41, 0, none⟩)), (21, .pointer (some ⟨O84, 0, none⟩)), (24, .pointer (some ⟨O203, 0, none⟩)), (25, .int .i64 lk9), (26, .bool true), (28, .int .i64 (sp.1 + ((j : Nat) : Int) : Int)), (29, .int .i64 (-((pk34 : Nat) : Int) + ((q : Nat) : Int) : Int))] ∧ m = 2 * pk34 + 1 - q ∧ w227.heap.size ≤ wr.heap.size ∧ Ext w wr ∧ Ext w227 wr ∧ q ≤ 2 * pk34 + 1) (ws0 := [(15, .bool true), (16, .pointer (some ⟨O18, 0, none⟩)), (18, .int .i64 (((pk34 : Nat) : Int) : Int)), (19, .int .i64 (s.2 - s.1 : Int)), (20, .pointer (some ⟨O41, 0, none⟩)), (21, .pointer (some ⟨O84, 0, none⟩)), (24, .pointer (some ⟨O203, 0, none⟩)), (25, .int .i64 lk9), (26, .bool true), (28, .int .i64 (sp.1 + ((j : Nat) : Int) : Int)), (29, .int .i64 (-((pk34 : Nat) : Int) + ((0 : Nat) : Int) : Int))]) (by kernel_rfl) _ ⟨0, rfl, rfl, Nat.le_refl _, hE, hX231, Nat.zero_le _⟩ ?_
              clear hE hX231
              rintro m234 L ws w233 ⟨q, rfl, rfl, hs232, hE, hX231, hq⟩
              by_cases hlt : q < 2 * pk34 + 1
              ·
                refine cw_seq ?_; refine cw_seq ?_; refine cw_plain ?_
                refine pT (.int .i64 (-((pk34 : Nat) : Int) + ((q : Nat) : Int) : Int)) ?_
                refine pT (.int .i64 (((pk34 : Nat) : Int) : Int)) ?_
                refine pl_take (.bool true) rfl (by kernel_rfl) (by kernel_rfl) (by kernel_rfl) (ev_dec (show _ = Result.ok (Next.value (Value.bool (decide ((-((pk34 : Nat) : Int) + ((q : Nat) : Int) : Int) ≤ (((pk34 : Nat) : Int) : Int))))) _ from by kernel_rfl) (by omega)) ?_
                refine pl_nil ?_; refine qw_then ?_
                refine cw_t (by kernel_rfl) ?_
                refine cw_skip ?_
                refine qw_then ?_; refine cw_seq ?_
                refine cw_block ?_
                refine cw_seq ?_; refine cw_seq ?_; refine cw_plain ?_
                refine pT (.bool true) ?_
                refine pT (.bool true) ?_
                refine pT (.int .i64 (sp.1 + ((j : Nat) : Int) : Int)) ?_
                refine pT (.pointer (some ⟨O203, 0, none⟩)) ?_
                have hY235 := hX221.trans hX225
                refine pl_take (.int .i64 b1) rfl (by kernel_rfl) (by kernel_rfl) (by kernel_rfl) (ex_load rfl (by kernel_rfl) (ld3 ((BoxAt.ext (hY235.trans hX231) bO203_0).1))) ?_
                by_cases hc236 : (sp.1 + ((j : Nat) : Int) : Int) = (b1 : Int)
                ·
                  refine pl_take (.bool true) rfl (by kernel_rfl) (by kernel_rfl) (by kernel_rfl) (ev_eq (show _ = Result.ok (Next.value (Value.bool ((sp.1 + ((j : Nat) : Int) : Int) == (b1 : Int)))) _ from by kernel_rfl) (hc236)) ?_
                  refine pT (.bool true) ?_
                  refine pT (.bool true) ?_
                  refine pT (.int .i64 (-((pk34 : Nat) : Int) + ((q : Nat) : Int) : Int)) ?_
                  refine pT (.int .i64 (-((pk34 : Nat) : Int) + ((q : Nat) : Int) : Int)) ?_
                  refine pl_take (.int .i64 (-(-((pk34 : Nat) : Int) + ((q : Nat) : Int)) : Int)) rfl (by kernel_rfl) (by kernel_rfl) (by kernel_rfl) (ev_int (ev_wrap (a := 0 - (-((pk34 : Nat) : Int) + ((q : Nat) : Int))) (by kernel_rfl) (by omega) (by omega)) (by omega)) ?_
                  refine pl_take (.int .i64 (max (-((pk34 : Nat) : Int) + ((q : Nat) : Int) : Int) (-(-((pk34 : Nat) : Int) + ((q : Nat) : Int)) : Int) : Int)) rfl (by kernel_rfl) (by kernel_rfl) (by kernel_rfl) (ev_int (show _ = Result.ok (Next.value (Value.int .i64 (if (-((pk34 : Nat) : Int) + ((q : Nat) : Int) : Int) < (-(-((pk34 : Nat) : Int) + ((q : Nat) : Int)) : Int) then (-(-((pk34 : Nat) : Int) + ((q : Nat) : Int)) : Int) else (-((pk34 : Nat) : Int) + ((q : Nat) : Int) : Int)))) _ from by kernel_rfl) (by split <;> omega)) ?_
                  refine pT (.int .i64 lk9) ?_
                  refine pT (.int .i64 lk9) ?_
                  refine pl_take (.int .i64 (-lk9 : Int)) rfl (by kernel_rfl) (by kernel_rfl) (by kernel_rfl) (ev_int (ev_wrap (a := 0 - lk9) (by kernel_rfl) (by omega) (by omega)) (by omega)) ?_
                  refine pl_take (.int .i64 (max (lk9 : Int) (-lk9 : Int) : Int)) rfl (by kernel_rfl) (by kernel_rfl) (by kernel_rfl) (ev_int (show _ = Result.ok (Next.value (Value.int .i64 (if (lk9 : Int) < (-lk9 : Int) then (-lk9 : Int) else (lk9 : Int)))) _ from by kernel_rfl) (by split <;> omega)) ?_
                  by_cases hc237 : (max (-((pk34 : Nat) : Int) + ((q : Nat) : Int) : Int) (-(-((pk34 : Nat) : Int) + ((q : Nat) : Int)) : Int) : Int) ≥ (max (lk9 : Int) (-lk9 : Int) : Int)
                  ·
                    refine pl_take (.bool true) rfl (by kernel_rfl) (by kernel_rfl) (by kernel_rfl) (ev_dec (show _ = Result.ok (Next.value (Value.bool (decide ((max (-((pk34 : Nat) : Int) + ((q : Nat) : Int) : Int) (-(-((pk34 : Nat) : Int) + ((q : Nat) : Int)) : Int) : Int) ≥ (max (lk9 : Int) (-lk9 : Int) : Int))))) _ from by kernel_rfl) (hc237)) ?_
                    refine pT (.bool true) ?_
                    refine pT (.bool true) ?_
                    refine pT (.int .i64 (-((pk34 : Nat) : Int) + ((q : Nat) : Int) : Int)) ?_
                    refine pT (.int .i64 lk9) ?_
                    by_cases hc238 : (-((pk34 : Nat) : Int) + ((q : Nat) : Int) : Int) ≤ (lk9 : Int)
                    ·
                      refine pl_take (.bool true) rfl (by kernel_rfl) (by kernel_rfl) (by kernel_rfl) (ev_dec (show _ = Result.ok (Next.value (Value.bool (decide ((-((pk34 : Nat) : Int) + ((q : Nat) : Int) : Int) ≤ (lk9 : Int))))) _ from by kernel_rfl) (hc238)) ?_
                      refine pT (.bool true) ?_
                      refine pl_nil ?_; refine qw_then ?_
                      refine cw_clean [15, 16, 18, 19, 20, 21, 24, 25, 26, 28, 29, 198] (ws' := [(15, .bool true), (16, .pointer (some ⟨O18, 0, none⟩)), (18, .int .i64 (((pk34 : Nat) : Int) : Int)), (19, .int .i64 (s.2 - s.1 : Int)), (20, .pointer (some ⟨O41, 0, none⟩)), (21, .pointer (some ⟨O84, 0, none⟩)), (24, .pointer (some ⟨O203, 0, none⟩)), (25, .int .i64 lk9), (26, .bool true), (28, .int .i64 (sp.1 + ((j : Nat) : Int) : Int)), (29, .int .i64 (-((pk34 : Nat) : Int) + ((q : Nat) : Int) : Int)), (198, .bool true)]) (by kernel_rfl) (fun L => ?_)
                      refine cw_t (by kernel_rfl) ?_
                      refine cw_exit ?_
                      refine qw_then_exit ?_
                      refine qw_block_out ?_
                      refine qw_then ?_; refine cw_plain ?_
                      refine pT (.int .i64 (-((pk34 : Nat) : Int) + ((q : Nat) : Int) : Int)) ?_
                      refine pl_take (.int .i64 (-((pk34 : Nat) : Int) + ((q + 1 : Nat) : Int) : Int)) rfl (by kernel_rfl) (by kernel_rfl) (by kernel_rfl) (ev_int (ev_wrap (a := -((pk34 : Nat) : Int) + ((q : Nat) : Int) + 1) (by kernel_rfl) (by omega) (by omega)) (by omega)) ?_
                      refine pT (.int .i64 (-((pk34 : Nat) : Int) + ((q + 1 : Nat) : Int) : Int)) ?_
                      refine pl_nil ?_
                      refine qw_round [15, 16, 18, 19, 20, 21, 24, 25, 26, 28, 29] (ws' := [(15, .bool true), (16, .pointer (some ⟨O18, 0, none⟩)), (18, .int .i64 (((pk34 : Nat) : Int) : Int)), (19, .int .i64 (s.2 - s.1 : Int)), (20, .pointer (some ⟨O41, 0, none⟩)), (21, .pointer (some ⟨O84, 0, none⟩)), (24, .pointer (some ⟨O203, 0, none⟩)), (25, .int .i64 lk9), (26, .bool true), (28, .int .i64 (sp.1 + ((j : Nat) : Int) : Int)), (29, .int .i64 (-((pk34 : Nat) : Int) + ((q + 1 : Nat) : Int) : Int))]) (by kernel_rfl) _ ?_ ⟨(q + 1), rfl, rfl, hs232, hE, hX231, by omega⟩
                      omega
                    ·
                      refine pl_take (.bool false) rfl (by kernel_rfl) (by kernel_rfl) (by kernel_rfl) (ev_ndec (show _ = Result.ok (Next.value (Value.bool (decide ((-((pk34 : Nat) : Int) + ((q : Nat) : Int) : Int) ≤ (lk9 : Int))))) _ from by kernel_rfl) (hc238)) ?_
                      refine pT (.bool false) ?_
                      refine pl_nil ?_; refine qw_then ?_
                      refine cw_clean [15, 16, 18, 19, 20, 21, 24, 25, 26, 28, 29, 198] (ws' := [(15, .bool true), (16, .pointer (some ⟨O18, 0, none⟩)), (18, .int .i64 (((pk34 : Nat) : Int) : Int)), (19, .int .i64 (s.2 - s.1 : Int)), (20, .pointer (some ⟨O41, 0, none⟩)), (21, .pointer (some ⟨O84, 0, none⟩)), (24, .pointer (some ⟨O203, 0, none⟩)), (25, .int .i64 lk9), (26, .bool true), (28, .int .i64 (sp.1 + ((j : Nat) : Int) : Int)), (29, .int .i64 (-((pk34 : Nat) : Int) + ((q : Nat) : Int) : Int)), (198, .bool false)]) (by kernel_rfl) (fun L => ?_)
                      refine cw_f (by kernel_rfl) ?_
                      refine cw_skip ?_
                      refine qw_then ?_; refine cw_seq ?_; refine cw_seq ?_; refine cw_plain ?_
                      refine pT (.bool true) ?_
                      refine pT (.bool true) ?_
                      refine pT (.int .i64 (sp.1 + ((j : Nat) : Int) : Int)) ?_
                      refine pT (.pointer (some ⟨O203, 0, none⟩)) ?_
                      refine pl_take (.int .i64 b1) rfl (by kernel_rfl) (by kernel_rfl) (by kernel_rfl) (ex_load rfl (by kernel_rfl) (ld3 ((BoxAt.ext (hY235.trans hX231) bO203_0).1))) ?_
                      by_cases hc239 : (sp.1 + ((j : Nat) : Int) : Int) = (b1 : Int)
                      ·
                        refine pl_take (.bool true) rfl (by kernel_rfl) (by kernel_rfl) (by kernel_rfl) (ev_eq (show _ = Result.ok (Next.value (Value.bool ((sp.1 + ((j : Nat) : Int) : Int) == (b1 : Int)))) _ from by kernel_rfl) (hc239)) ?_
                        refine pT (.bool true) ?_
                        refine pT (.bool true) ?_
                        refine pT (.int .i64 (-((pk34 : Nat) : Int) + ((q : Nat) : Int) : Int)) ?_
                        refine pT (.int .i64 (-((pk34 : Nat) : Int) + ((q : Nat) : Int) : Int)) ?_
                        refine pl_take (.int .i64 (-(-((pk34 : Nat) : Int) + ((q : Nat) : Int)) : Int)) rfl (by kernel_rfl) (by kernel_rfl) (by kernel_rfl) (ev_int (ev_wrap (a := 0 - (-((pk34 : Nat) : Int) + ((q : Nat) : Int))) (by kernel_rfl) (by omega) (by omega)) (by omega)) ?_
                        refine pl_take (.int .i64 (max (-((pk34 : Nat) : Int) + ((q : Nat) : Int) : Int) (-(-((pk34 : Nat) : Int) + ((q : Nat) : Int)) : Int) : Int)) rfl (by kernel_rfl) (by kernel_rfl) (by kernel_rfl) (ev_int (show _ = Result.ok (Next.value (Value.int .i64 (if (-((pk34 : Nat) : Int) + ((q : Nat) : Int) : Int) < (-(-((pk34 : Nat) : Int) + ((q : Nat) : Int)) : Int) then (-(-((pk34 : Nat) : Int) + ((q : Nat) : Int)) : Int) else (-((pk34 : Nat) : Int) + ((q : Nat) : Int) : Int)))) _ from by kernel_rfl) (by split <;> omega)) ?_
                        refine pT (.int .i64 lk9) ?_
                        refine pT (.int .i64 lk9) ?_
                        refine pl_take (.int .i64 (-lk9 : Int)) rfl (by kernel_rfl) (by kernel_rfl) (by kernel_rfl) (ev_int (ev_wrap (a := 0 - lk9) (by kernel_rfl) (by omega) (by omega)) (by omega)) ?_
                        refine pl_take (.int .i64 (max (lk9 : Int) (-lk9 : Int) : Int)) rfl (by kernel_rfl) (by kernel_rfl) (by kernel_rfl) (ev_int (show _ = Result.ok (Next.value (Value.int .i64 (if (lk9 : Int) < (-lk9 : Int) then (-lk9 : Int) else (lk9 : Int)))) _ from by kernel_rfl) (by split <;> omega)) ?_
                        by_cases hc240 : (max (-((pk34 : Nat) : Int) + ((q : Nat) : Int) : Int) (-(-((pk34 : Nat) : Int) + ((q : Nat) : Int)) : Int) : Int) > (max (lk9 : Int) (-lk9 : Int) : Int)
                        ·
                          refine pl_take (.bool true) rfl (by kernel_rfl) (by kernel_rfl) (by kernel_rfl) (ev_dec (show _ = Result.ok (Next.value (Value.bool (decide ((max (-((pk34 : Nat) : Int) + ((q : Nat) : Int) : Int) (-(-((pk34 : Nat) : Int) + ((q : Nat) : Int)) : Int) : Int) > (max (lk9 : Int) (-lk9 : Int) : Int))))) _ from by kernel_rfl) (hc240)) ?_
                          refine pT (.bool true) ?_
                          refine pl_nil ?_; refine qw_then ?_
                          refine cw_clean [15, 16, 18, 19, 20, 21, 24, 25, 26, 28, 29, 216] (ws' := [(15, .bool true), (16, .pointer (some ⟨O18, 0, none⟩)), (18, .int .i64 (((pk34 : Nat) : Int) : Int)), (19, .int .i64 (s.2 - s.1 : Int)), (20, .pointer (some ⟨O41, 0, none⟩)), (21, .pointer (some ⟨O84, 0, none⟩)), (24, .pointer (some ⟨O203, 0, none⟩)), (25, .int .i64 lk9), (26, .bool true), (28, .int .i64 (sp.1 + ((j : Nat) : Int) : Int)), (29, .int .i64 (-((pk34 : Nat) : Int) + ((q : Nat) : Int) : Int)), (216, .bool true)]) (by kernel_rfl) (fun L => ?_)
                          refine cw_t (by kernel_rfl) ?_
                          refine cw_exit ?_
                          refine qw_then_exit ?_
                          refine qw_block_out ?_
                          refine qw_then ?_; refine cw_plain ?_
                          refine pT (.int .i64 (-((pk34 : Nat) : Int) + ((q : Nat) : Int) : Int)) ?_
                          refine pl_take (.int .i64 (-((pk34 : Nat) : Int) + ((q + 1 : Nat) : Int) : Int)) rfl (by kernel_rfl) (by kernel_rfl) (by kernel_rfl) (ev_int (ev_wrap (a := -((pk34 : Nat) : Int) + ((q : Nat) : Int) + 1) (by kernel_rfl) (by omega) (by omega)) (by omega)) ?_
                          refine pT (.int .i64 (-((pk34 : Nat) : Int) + ((q + 1 : Nat) : Int) : Int)) ?_
                          refine pl_nil ?_
                          refine qw_round [15, 16, 18, 19, 20, 21, 24, 25, 26, 28, 29] (ws' := [(15, .bool true), (16, .pointer (some ⟨O18, 0, none⟩)), (18, .int .i64 (((pk34 : Nat) : Int) : Int)), (19, .int .i64 (s.2 - s.1 : Int)), (20, .pointer (some ⟨O41, 0, none⟩)), (21, .pointer (some ⟨O84, 0, none⟩)), (24, .pointer (some ⟨O203, 0, none⟩)), (25, .int .i64 lk9), (26, .bool true), (28, .int .i64 (sp.1 + ((j : Nat) : Int) : Int)), (29, .int .i64 (-((pk34 : Nat) : Int) + ((q + 1 : Nat) : Int) : Int))]) (by kernel_rfl) _ ?_ ⟨(q + 1), rfl, rfl, hs232, hE, hX231, by omega⟩
                          omega
                        ·
                          refine pl_take (.bool false) rfl (by kernel_rfl) (by kernel_rfl) (by kernel_rfl) (ev_ndec (show _ = Result.ok (Next.value (Value.bool (decide ((max (-((pk34 : Nat) : Int) + ((q : Nat) : Int) : Int) (-(-((pk34 : Nat) : Int) + ((q : Nat) : Int)) : Int) : Int) > (max (lk9 : Int) (-lk9 : Int) : Int))))) _ from by kernel_rfl) (hc240)) ?_
                          refine pT (.bool false) ?_
                          refine pl_nil ?_; refine qw_then ?_
                          refine cw_clean [15, 16, 18, 19, 20, 21, 24, 25, 26, 28, 29, 216] (ws' := [(15, .bool true), (16, .pointer (some ⟨O18, 0, none⟩)), (18, .int .i64 (((pk34 : Nat) : Int) : Int)), (19, .int .i64 (s.2 - s.1 : Int)), (20, .pointer (some ⟨O41, 0, none⟩)), (21, .pointer (some ⟨O84, 0, none⟩)), (24, .pointer (some ⟨O203, 0, none⟩)), (25, .int .i64 lk9), (26, .bool true), (28, .int .i64 (sp.1 + ((j : Nat) : Int) : Int)), (29, .int .i64 (-((pk34 : Nat) : Int) + ((q : Nat) : Int) : Int)), (216, .bool false)]) (by kernel_rfl) (fun L => ?_)
                          refine cw_f (by kernel_rfl) ?_
                          refine cw_skip ?_
                          refine qw_then ?_; refine cw_seq ?_; refine cw_plain ?_
                          have hY241 := hX97.trans hY235
                          have hY242 := hX24.trans hY241
                          refine pl_take (.agg #[.int .i64 o.p, .int .i64 o.f, .int .i64 o.lo, .int .i64 o.hi, .int .i64 o.nd, .int .i64 o.tn, .int .i64 o.sl]) rfl (by kernel_rfl) (by kernel_rfl) (by kernel_rfl) (ex_load rfl (by kernel_rfl) (ld24 ((BoxAt.ext (hY242.trans hX231) bO18_0).1) ((BoxAt.ext (hY242.trans hX231) bO18_1).1) ((BoxAt.ext (hY242.trans hX231) bO18_2).1) ((BoxAt.ext (hY242.trans hX231) bO18_3).1) ((BoxAt.ext (hY242.trans hX231) bO18_4).1) ((BoxAt.ext (hY242.trans hX231) bO18_5).1) ((BoxAt.ext (hY242.trans hX231) bO18_6).1))) ?_
                          refine pT (.int .i64 (sp.1 + ((j : Nat) : Int) : Int)) ?_
                          refine pT (.int .i64 (sp.1 + ((j : Nat) : Int) : Int)) ?_
                          refine pT (.int .i64 (s.2 - s.1 : Int)) ?_
                          refine pl_take (.int .i64 ((sp.1 + ((j : Nat) : Int)) + (s.2 - s.1) : Int)) rfl (by kernel_rfl) (by kernel_rfl) (by kernel_rfl) (ev_wrap (by kernel_rfl) (by omega) (by omega)) ?_
                          refine pT (.agg #[.int .i64 (sp.1 + ((j : Nat) : Int) : Int), .int .i64 ((sp.1 + ((j : Nat) : Int)) + (s.2 - s.1) : Int)]) ?_
                          refine pT (.int .i64 (-((pk34 : Nat) : Int) + ((q : Nat) : Int) : Int)) ?_
                          refine pl_take (.agg #[.slice (some ⟨B9, 0, none⟩) 24 k9]) rfl (by kernel_rfl) (by kernel_rfl) (by kernel_rfl) (ex_load rfl (by kernel_rfl) (ld31 ((BoxAt.ext (hY235.trans hX231) zb).1))) ?_
                          refine pS (sn_call (f := 24) (args := #[.agg #[.int .i64 o.p, .int .i64 o.f, .int .i64 o.lo, .int .i64 o.hi, .int .i64 o.nd, .int .i64 o.tn, .int .i64 o.sl], .agg #[.int .i64 (sp.1 + ((j : Nat) : Int) : Int), .int .i64 ((sp.1 + ((j : Nat) : Int)) + (s.2 - s.1) : Int)], .int .i64 (-((pk34 : Nat) : Int) + ((q : Nat) : Int) : Int), .agg #[.slice (some ⟨B9, 0, none⟩) 24 k9]]) (by kernel_rfl) ((Shows_r (s := (sp.1 + ((j : Nat) : Int), (sp.1 + ((j : Nat) : Int)) + (s.2 - s.1))) (r := false) _ _ (RowsAt.va (rb.ext (hY235.trans hX231)) (hvl9)).aa (Ext.refl _) (by first | exact hno _ _ (by omega) (by omega) (by omega) (by omega) | (rw [show sp.1 + ((j : Nat) : Int) = b1 by omega]; exact hno2 _ (by omega) (by omega) (by omega)))).mono ?_))
                          rintro e w243 ⟨rfl, hb⟩
                          replace hE := hE.trans hb; replace hX231 := hX231.trans hb; have hs244 := hb.size; clear hb
                          refine ⟨_, rfl, ?_⟩
                          refine pl_nil ?_; refine qw_then ?_
                          refine cw_clean [15, 16, 18, 19, 20, 21, 24, 25, 26, 28, 29, 225] (ws' := [(15, .bool true), (16, .pointer (some ⟨O18, 0, none⟩)), (18, .int .i64 (((pk34 : Nat) : Int) : Int)), (19, .int .i64 (s.2 - s.1 : Int)), (20, .pointer (some ⟨O41, 0, none⟩)), (21, .pointer (some ⟨O84, 0, none⟩)), (24, .pointer (some ⟨O203, 0, none⟩)), (25, .int .i64 lk9), (26, .bool true), (28, .int .i64 (sp.1 + ((j : Nat) : Int) : Int)), (29, .int .i64 (-((pk34 : Nat) : Int) + ((q : Nat) : Int) : Int)), (225, .bool false)]) (by kernel_rfl) (fun L => ?_)
                          refine cw_f (by kernel_rfl) ?_
                          refine cw_skip ?_
                          refine qw_block ?_
                          refine qw_then ?_; refine cw_plain ?_
                          refine pT (.int .i64 (-((pk34 : Nat) : Int) + ((q : Nat) : Int) : Int)) ?_
                          refine pl_take (.int .i64 (-((pk34 : Nat) : Int) + ((q + 1 : Nat) : Int) : Int)) rfl (by kernel_rfl) (by kernel_rfl) (by kernel_rfl) (ev_int (ev_wrap (a := -((pk34 : Nat) : Int) + ((q : Nat) : Int) + 1) (by kernel_rfl) (by omega) (by omega)) (by omega)) ?_
                          refine pT (.int .i64 (-((pk34 : Nat) : Int) + ((q + 1 : Nat) : Int) : Int)) ?_
                          refine pl_nil ?_
                          refine qw_round [15, 16, 18, 19, 20, 21, 24, 25, 26, 28, 29] (ws' := [(15, .bool true), (16, .pointer (some ⟨O18, 0, none⟩)), (18, .int .i64 (((pk34 : Nat) : Int) : Int)), (19, .int .i64 (s.2 - s.1 : Int)), (20, .pointer (some ⟨O41, 0, none⟩)), (21, .pointer (some ⟨O84, 0, none⟩)), (24, .pointer (some ⟨O203, 0, none⟩)), (25, .int .i64 lk9), (26, .bool true), (28, .int .i64 (sp.1 + ((j : Nat) : Int) : Int)), (29, .int .i64 (-((pk34 : Nat) : Int) + ((q + 1 : Nat) : Int) : Int))]) (by kernel_rfl) _ ?_ ⟨(q + 1), rfl, rfl, (T hs232 hs244), hE, hX231, by omega⟩
                          omega
                      ·
                        refine pl_take (.bool false) rfl (by kernel_rfl) (by kernel_rfl) (by kernel_rfl) (ev_neq (show _ = Result.ok (Next.value (Value.bool ((sp.1 + ((j : Nat) : Int) : Int) == (b1 : Int)))) _ from by kernel_rfl) (hc239)) ?_
                        refine pT (.bool false) ?_
                        refine pT (.bool false) ?_
                        refine pl_skip rfl (by kernel_rfl) (by kernel_rfl) (by kernel_rfl) ?_
                        refine pl_skip rfl (by kernel_rfl) (by kernel_rfl) (by kernel_rfl) ?_
                        refine pl_skip rfl (by kernel_rfl) (by kernel_rfl) (by kernel_rfl) ?_
                        refine pl_skip rfl (by kernel_rfl) (by kernel_rfl) (by kernel_rfl) ?_
                        refine pl_skip rfl (by kernel_rfl) (by kernel_rfl) (by kernel_rfl) ?_
                        refine pl_skip rfl (by kernel_rfl) (by kernel_rfl) (by kernel_rfl) ?_
                        refine pl_skip rfl (by kernel_rfl) (by kernel_rfl) (by kernel_rfl) ?_
                        refine pl_skip rfl (by kernel_rfl) (by kernel_rfl) (by kernel_rfl) ?_
                        refine pl_skip rfl (by kernel_rfl) (by kernel_rfl) (by kernel_rfl) ?_
                        refine pT (.bool false) ?_
                        refine pl_nil ?_; refine qw_then ?_
                        refine cw_clean [15, 16, 18, 19, 20, 21, 24, 25, 26, 28, 29, 216] (ws' := [(15, .bool true), (16, .pointer (some ⟨O18, 0, none⟩)), (18, .int .i64 (((pk34 : Nat) : Int) : Int)), (19, .int .i64 (s.2 - s.1 : Int)), (20, .pointer (some ⟨O41, 0, none⟩)), (21, .pointer (some ⟨O84, 0, none⟩)), (24, .pointer (some ⟨O203, 0, none⟩)), (25, .int .i64 lk9), (26, .bool true), (28, .int .i64 (sp.1 + ((j : Nat) : Int) : Int)), (29, .int .i64 (-((pk34 : Nat) : Int) + ((q : Nat) : Int) : Int)), (216, .bool false)]) (by kernel_rfl) (fun L => ?_)
                        refine cw_f (by kernel_rfl) ?_
                        refine cw_skip ?_
                        refine qw_then ?_; refine cw_seq ?_; refine cw_plain ?_
                        have hY245 := hX97.trans hY235
                        have hY246 := hX24.trans hY245
                        refine pl_take (.agg #[.int .i64 o.p, .int .i64 o.f, .int .i64 o.lo, .int .i64 o.hi, .int .i64 o.nd, .int .i64 o.tn, .int .i64 o.sl]) rfl (by kernel_rfl) (by kernel_rfl) (by kernel_rfl) (ex_load rfl (by kernel_rfl) (ld24 ((BoxAt.ext (hY246.trans hX231) bO18_0).1) ((BoxAt.ext (hY246.trans hX231) bO18_1).1) ((BoxAt.ext (hY246.trans hX231) bO18_2).1) ((BoxAt.ext (hY246.trans hX231) bO18_3).1) ((BoxAt.ext (hY246.trans hX231) bO18_4).1) ((BoxAt.ext (hY246.trans hX231) bO18_5).1) ((BoxAt.ext (hY246.trans hX231) bO18_6).1))) ?_
                        refine pT (.int .i64 (sp.1 + ((j : Nat) : Int) : Int)) ?_
                        refine pT (.int .i64 (sp.1 + ((j : Nat) : Int) : Int)) ?_
                        refine pT (.int .i64 (s.2 - s.1 : Int)) ?_
                        refine pl_take (.int .i64 ((sp.1 + ((j : Nat) : Int)) + (s.2 - s.1) : Int)) rfl (by kernel_rfl) (by kernel_rfl) (by kernel_rfl) (ev_wrap (by kernel_rfl) (by omega) (by omega)) ?_
                        refine pT (.agg #[.int .i64 (sp.1 + ((j : Nat) : Int) : Int), .int .i64 ((sp.1 + ((j : Nat) : Int)) + (s.2 - s.1) : Int)]) ?_
                        refine pT (.int .i64 (-((pk34 : Nat) : Int) + ((q : Nat) : Int) : Int)) ?_
                        refine pl_take (.agg #[.slice (some ⟨B9, 0, none⟩) 24 k9]) rfl (by kernel_rfl) (by kernel_rfl) (by kernel_rfl) (ex_load rfl (by kernel_rfl) (ld31 ((BoxAt.ext (hY235.trans hX231) zb).1))) ?_
                        refine pS (sn_call (f := 24) (args := #[.agg #[.int .i64 o.p, .int .i64 o.f, .int .i64 o.lo, .int .i64 o.hi, .int .i64 o.nd, .int .i64 o.tn, .int .i64 o.sl], .agg #[.int .i64 (sp.1 + ((j : Nat) : Int) : Int), .int .i64 ((sp.1 + ((j : Nat) : Int)) + (s.2 - s.1) : Int)], .int .i64 (-((pk34 : Nat) : Int) + ((q : Nat) : Int) : Int), .agg #[.slice (some ⟨B9, 0, none⟩) 24 k9]]) (by kernel_rfl) ((Shows_r (s := (sp.1 + ((j : Nat) : Int), (sp.1 + ((j : Nat) : Int)) + (s.2 - s.1))) (r := false) _ _ (RowsAt.va (rb.ext (hY235.trans hX231)) (hvl9)).aa (Ext.refl _) (by first | exact hno _ _ (by omega) (by omega) (by omega) (by omega) | (rw [show sp.1 + ((j : Nat) : Int) = b1 by omega]; exact hno2 _ (by omega) (by omega) (by omega)))).mono ?_))
                        rintro e w247 ⟨rfl, hb⟩
                        replace hE := hE.trans hb; replace hX231 := hX231.trans hb; have hs248 := hb.size; clear hb
                        refine ⟨_, rfl, ?_⟩
                        refine pl_nil ?_; refine qw_then ?_
                        refine cw_clean [15, 16, 18, 19, 20, 21, 24, 25, 26, 28, 29, 225] (ws' := [(15, .bool true), (16, .pointer (some ⟨O18, 0, none⟩)), (18, .int .i64 (((pk34 : Nat) : Int) : Int)), (19, .int .i64 (s.2 - s.1 : Int)), (20, .pointer (some ⟨O41, 0, none⟩)), (21, .pointer (some ⟨O84, 0, none⟩)), (24, .pointer (some ⟨O203, 0, none⟩)), (25, .int .i64 lk9), (26, .bool true), (28, .int .i64 (sp.1 + ((j : Nat) : Int) : Int)), (29, .int .i64 (-((pk34 : Nat) : Int) + ((q : Nat) : Int) : Int)), (225, .bool false)]) (by kernel_rfl) (fun L => ?_)
                        refine cw_f (by kernel_rfl) ?_
                        refine cw_skip ?_
                        refine qw_block ?_
                        refine qw_then ?_; refine cw_plain ?_
                        refine pT (.int .i64 (-((pk34 : Nat) : Int) + ((q : Nat) : Int) : Int)) ?_
                        refine pl_take (.int .i64 (-((pk34 : Nat) : Int) + ((q + 1 : Nat) : Int) : Int)) rfl (by kernel_rfl) (by kernel_rfl) (by kernel_rfl) (ev_int (ev_wrap (a := -((pk34 : Nat) : Int) + ((q : Nat) : Int) + 1) (by kernel_rfl) (by omega) (by omega)) (by omega)) ?_
                        refine pT (.int .i64 (-((pk34 : Nat) : Int) + ((q + 1 : Nat) : Int) : Int)) ?_
                        refine pl_nil ?_
                        refine qw_round [15, 16, 18, 19, 20, 21, 24, 25, 26, 28, 29] (ws' := [(15, .bool true), (16, .pointer (some ⟨O18, 0, none⟩)), (18, .int .i64 (((pk34 : Nat) : Int) : Int)), (19, .int .i64 (s.2 - s.1 : Int)), (20, .pointer (some ⟨O41, 0, none⟩)), (21, .pointer (some ⟨O84, 0, none⟩)), (24, .pointer (some ⟨O203, 0, none⟩)), (25, .int .i64 lk9), (26, .bool true), (28, .int .i64 (sp.1 + ((j : Nat) : Int) : Int)), (29, .int .i64 (-((pk34 : Nat) : Int) + ((q + 1 : Nat) : Int) : Int))]) (by kernel_rfl) _ ?_ ⟨(q + 1), rfl, rfl, (T hs232 hs248), hE, hX231, by omega⟩
                        omega
                  ·
                    refine pl_take (.bool false) rfl (by kernel_rfl) (by kernel_rfl) (by kernel_rfl) (ev_ndec (show _ = Result.ok (Next.value (Value.bool (decide ((max (-((pk34 : Nat) : Int) + ((q : Nat) : Int) : Int) (-(-((pk34 : Nat) : Int) + ((q : Nat) : Int)) : Int) : Int) ≥ (max (lk9 : Int) (-lk9 : Int) : Int))))) _ from by kernel_rfl) (hc237)) ?_
                    refine pT (.bool false) ?_
                    refine pT (.bool false) ?_
                    refine pl_skip rfl (by kernel_rfl) (by kernel_rfl) (by kernel_rfl) ?_
                    refine pl_skip rfl (by kernel_rfl) (by kernel_rfl) (by kernel_rfl) ?_
                    refine pl_skip rfl (by kernel_rfl) (by kernel_rfl) (by kernel_rfl) ?_
                    refine pT (.bool false) ?_
                    refine pl_nil ?_; refine qw_then ?_
                    refine cw_clean [15, 16, 18, 19, 20, 21, 24, 25, 26, 28, 29, 198] (ws' := [(15, .bool true), (16, .pointer (some ⟨O18, 0, none⟩)), (18, .int .i64 (((pk34 : Nat) : Int) : Int)), (19, .int .i64 (s.2 - s.1 : Int)), (20, .pointer (some ⟨O41, 0, none⟩)), (21, .pointer (some ⟨O84, 0, none⟩)), (24, .pointer (some ⟨O203, 0, none⟩)), (25, .int .i64 lk9), (26, .bool true), (28, .int .i64 (sp.1 + ((j : Nat) : Int) : Int)), (29, .int .i64 (-((pk34 : Nat) : Int) + ((q : Nat) : Int) : Int)), (198, .bool false)]) (by kernel_rfl) (fun L => ?_)
                    refine cw_f (by kernel_rfl) ?_
                    refine cw_skip ?_
                    refine qw_then ?_; refine cw_seq ?_; refine cw_seq ?_; refine cw_plain ?_
                    refine pT (.bool true) ?_
                    refine pT (.bool true) ?_
                    refine pT (.int .i64 (sp.1 + ((j : Nat) : Int) : Int)) ?_
                    refine pT (.pointer (some ⟨O203, 0, none⟩)) ?_
                    refine pl_take (.int .i64 b1) rfl (by kernel_rfl) (by kernel_rfl) (by kernel_rfl) (ex_load rfl (by kernel_rfl) (ld3 ((BoxAt.ext (hY235.trans hX231) bO203_0).1))) ?_
                    by_cases hc249 : (sp.1 + ((j : Nat) : Int) : Int) = (b1 : Int)
                    ·
                      refine pl_take (.bool true) rfl (by kernel_rfl) (by kernel_rfl) (by kernel_rfl) (ev_eq (show _ = Result.ok (Next.value (Value.bool ((sp.1 + ((j : Nat) : Int) : Int) == (b1 : Int)))) _ from by kernel_rfl) (hc249)) ?_
                      refine pT (.bool true) ?_
                      refine pT (.bool true) ?_
                      refine pT (.int .i64 (-((pk34 : Nat) : Int) + ((q : Nat) : Int) : Int)) ?_
                      refine pT (.int .i64 (-((pk34 : Nat) : Int) + ((q : Nat) : Int) : Int)) ?_
                      refine pl_take (.int .i64 (-(-((pk34 : Nat) : Int) + ((q : Nat) : Int)) : Int)) rfl (by kernel_rfl) (by kernel_rfl) (by kernel_rfl) (ev_int (ev_wrap (a := 0 - (-((pk34 : Nat) : Int) + ((q : Nat) : Int))) (by kernel_rfl) (by omega) (by omega)) (by omega)) ?_
                      refine pl_take (.int .i64 (max (-((pk34 : Nat) : Int) + ((q : Nat) : Int) : Int) (-(-((pk34 : Nat) : Int) + ((q : Nat) : Int)) : Int) : Int)) rfl (by kernel_rfl) (by kernel_rfl) (by kernel_rfl) (ev_int (show _ = Result.ok (Next.value (Value.int .i64 (if (-((pk34 : Nat) : Int) + ((q : Nat) : Int) : Int) < (-(-((pk34 : Nat) : Int) + ((q : Nat) : Int)) : Int) then (-(-((pk34 : Nat) : Int) + ((q : Nat) : Int)) : Int) else (-((pk34 : Nat) : Int) + ((q : Nat) : Int) : Int)))) _ from by kernel_rfl) (by split <;> omega)) ?_
                      refine pT (.int .i64 lk9) ?_
                      refine pT (.int .i64 lk9) ?_
                      refine pl_take (.int .i64 (-lk9 : Int)) rfl (by kernel_rfl) (by kernel_rfl) (by kernel_rfl) (ev_int (ev_wrap (a := 0 - lk9) (by kernel_rfl) (by omega) (by omega)) (by omega)) ?_
                      refine pl_take (.int .i64 (max (lk9 : Int) (-lk9 : Int) : Int)) rfl (by kernel_rfl) (by kernel_rfl) (by kernel_rfl) (ev_int (show _ = Result.ok (Next.value (Value.int .i64 (if (lk9 : Int) < (-lk9 : Int) then (-lk9 : Int) else (lk9 : Int)))) _ from by kernel_rfl) (by split <;> omega)) ?_
                      by_cases hc250 : (max (-((pk34 : Nat) : Int) + ((q : Nat) : Int) : Int) (-(-((pk34 : Nat) : Int) + ((q : Nat) : Int)) : Int) : Int) > (max (lk9 : Int) (-lk9 : Int) : Int)
                      ·
                        refine pl_take (.bool true) rfl (by kernel_rfl) (by kernel_rfl) (by kernel_rfl) (ev_dec (show _ = Result.ok (Next.value (Value.bool (decide ((max (-((pk34 : Nat) : Int) + ((q : Nat) : Int) : Int) (-(-((pk34 : Nat) : Int) + ((q : Nat) : Int)) : Int) : Int) > (max (lk9 : Int) (-lk9 : Int) : Int))))) _ from by kernel_rfl) (hc250)) ?_
                        refine pT (.bool true) ?_
                        refine pl_nil ?_; refine qw_then ?_
                        refine cw_clean [15, 16, 18, 19, 20, 21, 24, 25, 26, 28, 29, 216] (ws' := [(15, .bool true), (16, .pointer (some ⟨O18, 0, none⟩)), (18, .int .i64 (((pk34 : Nat) : Int) : Int)), (19, .int .i64 (s.2 - s.1 : Int)), (20, .pointer (some ⟨O41, 0, none⟩)), (21, .pointer (some ⟨O84, 0, none⟩)), (24, .pointer (some ⟨O203, 0, none⟩)), (25, .int .i64 lk9), (26, .bool true), (28, .int .i64 (sp.1 + ((j : Nat) : Int) : Int)), (29, .int .i64 (-((pk34 : Nat) : Int) + ((q : Nat) : Int) : Int)), (216, .bool true)]) (by kernel_rfl) (fun L => ?_)
                        refine cw_t (by kernel_rfl) ?_
                        refine cw_exit ?_
                        refine qw_then_exit ?_
                        refine qw_block_out ?_
                        refine qw_then ?_; refine cw_plain ?_
                        refine pT (.int .i64 (-((pk34 : Nat) : Int) + ((q : Nat) : Int) : Int)) ?_
                        refine pl_take (.int .i64 (-((pk34 : Nat) : Int) + ((q + 1 : Nat) : Int) : Int)) rfl (by kernel_rfl) (by kernel_rfl) (by kernel_rfl) (ev_int (ev_wrap (a := -((pk34 : Nat) : Int) + ((q : Nat) : Int) + 1) (by kernel_rfl) (by omega) (by omega)) (by omega)) ?_
                        refine pT (.int .i64 (-((pk34 : Nat) : Int) + ((q + 1 : Nat) : Int) : Int)) ?_
                        refine pl_nil ?_
                        refine qw_round [15, 16, 18, 19, 20, 21, 24, 25, 26, 28, 29] (ws' := [(15, .bool true), (16, .pointer (some ⟨O18, 0, none⟩)), (18, .int .i64 (((pk34 : Nat) : Int) : Int)), (19, .int .i64 (s.2 - s.1 : Int)), (20, .pointer (some ⟨O41, 0, none⟩)), (21, .pointer (some ⟨O84, 0, none⟩)), (24, .pointer (some ⟨O203, 0, none⟩)), (25, .int .i64 lk9), (26, .bool true), (28, .int .i64 (sp.1 + ((j : Nat) : Int) : Int)), (29, .int .i64 (-((pk34 : Nat) : Int) + ((q + 1 : Nat) : Int) : Int))]) (by kernel_rfl) _ ?_ ⟨(q + 1), rfl, rfl, hs232, hE, hX231, by omega⟩
                        omega
                      ·
                        refine pl_take (.bool false) rfl (by kernel_rfl) (by kernel_rfl) (by kernel_rfl) (ev_ndec (show _ = Result.ok (Next.value (Value.bool (decide ((max (-((pk34 : Nat) : Int) + ((q : Nat) : Int) : Int) (-(-((pk34 : Nat) : Int) + ((q : Nat) : Int)) : Int) : Int) > (max (lk9 : Int) (-lk9 : Int) : Int))))) _ from by kernel_rfl) (hc250)) ?_
                        refine pT (.bool false) ?_
                        refine pl_nil ?_; refine qw_then ?_
                        refine cw_clean [15, 16, 18, 19, 20, 21, 24, 25, 26, 28, 29, 216] (ws' := [(15, .bool true), (16, .pointer (some ⟨O18, 0, none⟩)), (18, .int .i64 (((pk34 : Nat) : Int) : Int)), (19, .int .i64 (s.2 - s.1 : Int)), (20, .pointer (some ⟨O41, 0, none⟩)), (21, .pointer (some ⟨O84, 0, none⟩)), (24, .pointer (some ⟨O203, 0, none⟩)), (25, .int .i64 lk9), (26, .bool true), (28, .int .i64 (sp.1 + ((j : Nat) : Int) : Int)), (29, .int .i64 (-((pk34 : Nat) : Int) + ((q : Nat) : Int) : Int)), (216, .bool false)]) (by kernel_rfl) (fun L => ?_)
                        refine cw_f (by kernel_rfl) ?_
                        refine cw_skip ?_
                        refine qw_then ?_; refine cw_seq ?_; refine cw_plain ?_
                        have hY251 := hX97.trans hY235
                        have hY252 := hX24.trans hY251
                        refine pl_take (.agg #[.int .i64 o.p, .int .i64 o.f, .int .i64 o.lo, .int .i64 o.hi, .int .i64 o.nd, .int .i64 o.tn, .int .i64 o.sl]) rfl (by kernel_rfl) (by kernel_rfl) (by kernel_rfl) (ex_load rfl (by kernel_rfl) (ld24 ((BoxAt.ext (hY252.trans hX231) bO18_0).1) ((BoxAt.ext (hY252.trans hX231) bO18_1).1) ((BoxAt.ext (hY252.trans hX231) bO18_2).1) ((BoxAt.ext (hY252.trans hX231) bO18_3).1) ((BoxAt.ext (hY252.trans hX231) bO18_4).1) ((BoxAt.ext (hY252.trans hX231) bO18_5).1) ((BoxAt.ext (hY252.trans hX231) bO18_6).1))) ?_
                        refine pT (.int .i64 (sp.1 + ((j : Nat) : Int) : Int)) ?_
                        refine pT (.int .i64 (sp.1 + ((j : Nat) : Int) : Int)) ?_
                        refine pT (.int .i64 (s.2 - s.1 : Int)) ?_
                        refine pl_take (.int .i64 ((sp.1 + ((j : Nat) : Int)) + (s.2 - s.1) : Int)) rfl (by kernel_rfl) (by kernel_rfl) (by kernel_rfl) (ev_wrap (by kernel_rfl) (by omega) (by omega)) ?_
                        refine pT (.agg #[.int .i64 (sp.1 + ((j : Nat) : Int) : Int), .int .i64 ((sp.1 + ((j : Nat) : Int)) + (s.2 - s.1) : Int)]) ?_
                        refine pT (.int .i64 (-((pk34 : Nat) : Int) + ((q : Nat) : Int) : Int)) ?_
                        refine pl_take (.agg #[.slice (some ⟨B9, 0, none⟩) 24 k9]) rfl (by kernel_rfl) (by kernel_rfl) (by kernel_rfl) (ex_load rfl (by kernel_rfl) (ld31 ((BoxAt.ext (hY235.trans hX231) zb).1))) ?_
                        refine pS (sn_call (f := 24) (args := #[.agg #[.int .i64 o.p, .int .i64 o.f, .int .i64 o.lo, .int .i64 o.hi, .int .i64 o.nd, .int .i64 o.tn, .int .i64 o.sl], .agg #[.int .i64 (sp.1 + ((j : Nat) : Int) : Int), .int .i64 ((sp.1 + ((j : Nat) : Int)) + (s.2 - s.1) : Int)], .int .i64 (-((pk34 : Nat) : Int) + ((q : Nat) : Int) : Int), .agg #[.slice (some ⟨B9, 0, none⟩) 24 k9]]) (by kernel_rfl) ((Shows_r (s := (sp.1 + ((j : Nat) : Int), (sp.1 + ((j : Nat) : Int)) + (s.2 - s.1))) (r := false) _ _ (RowsAt.va (rb.ext (hY235.trans hX231)) (hvl9)).aa (Ext.refl _) (by first | exact hno _ _ (by omega) (by omega) (by omega) (by omega) | (rw [show sp.1 + ((j : Nat) : Int) = b1 by omega]; exact hno2 _ (by omega) (by omega) (by omega)))).mono ?_))
                        rintro e w253 ⟨rfl, hb⟩
                        replace hE := hE.trans hb; replace hX231 := hX231.trans hb; have hs254 := hb.size; clear hb
                        refine ⟨_, rfl, ?_⟩
                        refine pl_nil ?_; refine qw_then ?_
                        refine cw_clean [15, 16, 18, 19, 20, 21, 24, 25, 26, 28, 29, 225] (ws' := [(15, .bool true), (16, .pointer (some ⟨O18, 0, none⟩)), (18, .int .i64 (((pk34 : Nat) : Int) : Int)), (19, .int .i64 (s.2 - s.1 : Int)), (20, .pointer (some ⟨O41, 0, none⟩)), (21, .pointer (some ⟨O84, 0, none⟩)), (24, .pointer (some ⟨O203, 0, none⟩)), (25, .int .i64 lk9), (26, .bool true), (28, .int .i64 (sp.1 + ((j : Nat) : Int) : Int)), (29, .int .i64 (-((pk34 : Nat) : Int) + ((q : Nat) : Int) : Int)), (225, .bool false)]) (by kernel_rfl) (fun L => ?_)
                        refine cw_f (by kernel_rfl) ?_
                        refine cw_skip ?_
                        refine qw_block ?_
                        refine qw_then ?_; refine cw_plain ?_
                        refine pT (.int .i64 (-((pk34 : Nat) : Int) + ((q : Nat) : Int) : Int)) ?_
                        refine pl_take (.int .i64 (-((pk34 : Nat) : Int) + ((q + 1 : Nat) : Int) : Int)) rfl (by kernel_rfl) (by kernel_rfl) (by kernel_rfl) (ev_int (ev_wrap (a := -((pk34 : Nat) : Int) + ((q : Nat) : Int) + 1) (by kernel_rfl) (by omega) (by omega)) (by omega)) ?_
                        refine pT (.int .i64 (-((pk34 : Nat) : Int) + ((q + 1 : Nat) : Int) : Int)) ?_
                        refine pl_nil ?_
                        refine qw_round [15, 16, 18, 19, 20, 21, 24, 25, 26, 28, 29] (ws' := [(15, .bool true), (16, .pointer (some ⟨O18, 0, none⟩)), (18, .int .i64 (((pk34 : Nat) : Int) : Int)), (19, .int .i64 (s.2 - s.1 : Int)), (20, .pointer (some ⟨O41, 0, none⟩)), (21, .pointer (some ⟨O84, 0, none⟩)), (24, .pointer (some ⟨O203, 0, none⟩)), (25, .int .i64 lk9), (26, .bool true), (28, .int .i64 (sp.1 + ((j : Nat) : Int) : Int)), (29, .int .i64 (-((pk34 : Nat) : Int) + ((q + 1 : Nat) : Int) : Int))]) (by kernel_rfl) _ ?_ ⟨(q + 1), rfl, rfl, (T hs232 hs254), hE, hX231, by omega⟩
                        omega
                    ·
                      refine pl_take (.bool false) rfl (by kernel_rfl) (by kernel_rfl) (by kernel_rfl) (ev_neq (show _ = Result.ok (Next.value (Value.bool ((sp.1 + ((j : Nat) : Int) : Int) == (b1 : Int)))) _ from by kernel_rfl) (hc249)) ?_
                      refine pT (.bool false) ?_
                      refine pT (.bool false) ?_
                      refine pl_skip rfl (by kernel_rfl) (by kernel_rfl) (by kernel_rfl) ?_
                      refine pl_skip rfl (by kernel_rfl) (by kernel_rfl) (by kernel_rfl) ?_
                      refine pl_skip rfl (by kernel_rfl) (by kernel_rfl) (by kernel_rfl) ?_
                      refine pl_skip rfl (by kernel_rfl) (by kernel_rfl) (by kernel_rfl) ?_
                      refine pl_skip rfl (by kernel_rfl) (by kernel_rfl) (by kernel_rfl) ?_
                      refine pl_skip rfl (by kernel_rfl) (by kernel_rfl) (by kernel_rfl) ?_
                      refine pl_skip rfl (by kernel_rfl) (by kernel_rfl) (by kernel_rfl) ?_
                      refine pl_skip rfl (by kernel_rfl) (by kernel_rfl) (by kernel_rfl) ?_
                      refine pl_skip rfl (by kernel_rfl) (by kernel_rfl) (by kernel_rfl) ?_
                      refine pT (.bool false) ?_
                      refine pl_nil ?_; refine qw_then ?_
                      refine cw_clean [15, 16, 18, 19, 20, 21, 24, 25, 26, 28, 29, 216] (ws' := [(15, .bool true), (16, .pointer (some ⟨O18, 0, none⟩)), (18, .int .i64 (((pk34 : Nat) : Int) : Int)), (19, .int .i64 (s.2 - s.1 : Int)), (20, .pointer (some ⟨O41, 0, none⟩)), (21, .pointer (some ⟨O84, 0, none⟩)), (24, .pointer (some ⟨O203, 0, none⟩)), (25, .int .i64 lk9), (26, .bool true), (28, .int .i64 (sp.1 + ((j : Nat) : Int) : Int)), (29, .int .i64 (-((pk34 : Nat) : Int) + ((q : Nat) : Int) : Int)), (216, .bool false)]) (by kernel_rfl) (fun L => ?_)
                      refine cw_f (by kernel_rfl) ?_
                      refine cw_skip ?_
                      refine qw_then ?_; refine cw_seq ?_; refine cw_plain ?_
                      have hY255 := hX97.trans hY235
                      have hY256 := hX24.trans hY255
                      refine pl_take (.agg #[.int .i64 o.p, .int .i64 o.f, .int .i64 o.lo, .int .i64 o.hi, .int .i64 o.nd, .int .i64 o.tn, .int .i64 o.sl]) rfl (by kernel_rfl) (by kernel_rfl) (by kernel_rfl) (ex_load rfl (by kernel_rfl) (ld24 ((BoxAt.ext (hY256.trans hX231) bO18_0).1) ((BoxAt.ext (hY256.trans hX231) bO18_1).1) ((BoxAt.ext (hY256.trans hX231) bO18_2).1) ((BoxAt.ext (hY256.trans hX231) bO18_3).1) ((BoxAt.ext (hY256.trans hX231) bO18_4).1) ((BoxAt.ext (hY256.trans hX231) bO18_5).1) ((BoxAt.ext (hY256.trans hX231) bO18_6).1))) ?_
                      refine pT (.int .i64 (sp.1 + ((j : Nat) : Int) : Int)) ?_
                      refine pT (.int .i64 (sp.1 + ((j : Nat) : Int) : Int)) ?_
                      refine pT (.int .i64 (s.2 - s.1 : Int)) ?_
                      refine pl_take (.int .i64 ((sp.1 + ((j : Nat) : Int)) + (s.2 - s.1) : Int)) rfl (by kernel_rfl) (by kernel_rfl) (by kernel_rfl) (ev_wrap (by kernel_rfl) (by omega) (by omega)) ?_
                      refine pT (.agg #[.int .i64 (sp.1 + ((j : Nat) : Int) : Int), .int .i64 ((sp.1 + ((j : Nat) : Int)) + (s.2 - s.1) : Int)]) ?_
                      refine pT (.int .i64 (-((pk34 : Nat) : Int) + ((q : Nat) : Int) : Int)) ?_
                      refine pl_take (.agg #[.slice (some ⟨B9, 0, none⟩) 24 k9]) rfl (by kernel_rfl) (by kernel_rfl) (by kernel_rfl) (ex_load rfl (by kernel_rfl) (ld31 ((BoxAt.ext (hY235.trans hX231) zb).1))) ?_
                      refine pS (sn_call (f := 24) (args := #[.agg #[.int .i64 o.p, .int .i64 o.f, .int .i64 o.lo, .int .i64 o.hi, .int .i64 o.nd, .int .i64 o.tn, .int .i64 o.sl], .agg #[.int .i64 (sp.1 + ((j : Nat) : Int) : Int), .int .i64 ((sp.1 + ((j : Nat) : Int)) + (s.2 - s.1) : Int)], .int .i64 (-((pk34 : Nat) : Int) + ((q : Nat) : Int) : Int), .agg #[.slice (some ⟨B9, 0, none⟩) 24 k9]]) (by kernel_rfl) ((Shows_r (s := (sp.1 + ((j : Nat) : Int), (sp.1 + ((j : Nat) : Int)) + (s.2 - s.1))) (r := false) _ _ (RowsAt.va (rb.ext (hY235.trans hX231)) (hvl9)).aa (Ext.refl _) (by first | exact hno _ _ (by omega) (by omega) (by omega) (by omega) | (rw [show sp.1 + ((j : Nat) : Int) = b1 by omega]; exact hno2 _ (by omega) (by omega) (by omega)))).mono ?_))
                      rintro e w257 ⟨rfl, hb⟩
                      replace hE := hE.trans hb; replace hX231 := hX231.trans hb; have hs258 := hb.size; clear hb
                      refine ⟨_, rfl, ?_⟩
                      refine pl_nil ?_; refine qw_then ?_
                      refine cw_clean [15, 16, 18, 19, 20, 21, 24, 25, 26, 28, 29, 225] (ws' := [(15, .bool true), (16, .pointer (some ⟨O18, 0, none⟩)), (18, .int .i64 (((pk34 : Nat) : Int) : Int)), (19, .int .i64 (s.2 - s.1 : Int)), (20, .pointer (some ⟨O41, 0, none⟩)), (21, .pointer (some ⟨O84, 0, none⟩)), (24, .pointer (some ⟨O203, 0, none⟩)), (25, .int .i64 lk9), (26, .bool true), (28, .int .i64 (sp.1 + ((j : Nat) : Int) : Int)), (29, .int .i64 (-((pk34 : Nat) : Int) + ((q : Nat) : Int) : Int)), (225, .bool false)]) (by kernel_rfl) (fun L => ?_)
                      refine cw_f (by kernel_rfl) ?_
                      refine cw_skip ?_
                      refine qw_block ?_
                      refine qw_then ?_; refine cw_plain ?_
                      refine pT (.int .i64 (-((pk34 : Nat) : Int) + ((q : Nat) : Int) : Int)) ?_
                      refine pl_take (.int .i64 (-((pk34 : Nat) : Int) + ((q + 1 : Nat) : Int) : Int)) rfl (by kernel_rfl) (by kernel_rfl) (by kernel_rfl) (ev_int (ev_wrap (a := -((pk34 : Nat) : Int) + ((q : Nat) : Int) + 1) (by kernel_rfl) (by omega) (by omega)) (by omega)) ?_
                      refine pT (.int .i64 (-((pk34 : Nat) : Int) + ((q + 1 : Nat) : Int) : Int)) ?_
                      refine pl_nil ?_
                      refine qw_round [15, 16, 18, 19, 20, 21, 24, 25, 26, 28, 29] (ws' := [(15, .bool true), (16, .pointer (some ⟨O18, 0, none⟩)), (18, .int .i64 (((pk34 : Nat) : Int) : Int)), (19, .int .i64 (s.2 - s.1 : Int)), (20, .pointer (some ⟨O41, 0, none⟩)), (21, .pointer (some ⟨O84, 0, none⟩)), (24, .pointer (some ⟨O203, 0, none⟩)), (25, .int .i64 lk9), (26, .bool true), (28, .int .i64 (sp.1 + ((j : Nat) : Int) : Int)), (29, .int .i64 (-((pk34 : Nat) : Int) + ((q + 1 : Nat) : Int) : Int))]) (by kernel_rfl) _ ?_ ⟨(q + 1), rfl, rfl, (T hs232 hs258), hE, hX231, by omega⟩
                      omega
                ·
                  refine pl_take (.bool false) rfl (by kernel_rfl) (by kernel_rfl) (by kernel_rfl) (ev_neq (show _ = Result.ok (Next.value (Value.bool ((sp.1 + ((j : Nat) : Int) : Int) == (b1 : Int)))) _ from by kernel_rfl) (hc236)) ?_
                  refine pT (.bool false) ?_
                  refine pT (.bool false) ?_
                  refine pl_skip rfl (by kernel_rfl) (by kernel_rfl) (by kernel_rfl) ?_
                  refine pl_skip rfl (by kernel_rfl) (by kernel_rfl) (by kernel_rfl) ?_
                  refine pl_skip rfl (by kernel_rfl) (by kernel_rfl) (by kernel_rfl) ?_
                  refine pl_skip rfl (by kernel_rfl) (by kernel_rfl) (by kernel_rfl) ?_
                  refine pl_skip rfl (by kernel_rfl) (by kernel_rfl) (by kernel_rfl) ?_
                  refine pl_skip rfl (by kernel_rfl) (by kernel_rfl) (by kernel_rfl) ?_
                  refine pl_skip rfl (by kernel_rfl) (by kernel_rfl) (by kernel_rfl) ?_
                  refine pl_skip rfl (by kernel_rfl) (by kernel_rfl) (by kernel_rfl) ?_
                  refine pl_skip rfl (by kernel_rfl) (by kernel_rfl) (by kernel_rfl) ?_
                  refine pT (.bool false) ?_
                  refine pT (.bool false) ?_
                  refine pl_skip rfl (by kernel_rfl) (by kernel_rfl) (by kernel_rfl) ?_
                  refine pl_skip rfl (by kernel_rfl) (by kernel_rfl) (by kernel_rfl) ?_
                  refine pl_skip rfl (by kernel_rfl) (by kernel_rfl) (by kernel_rfl) ?_
                  refine pT (.bool false) ?_
                  refine pl_nil ?_; refine qw_then ?_
                  refine cw_clean [15, 16, 18, 19, 20, 21, 24, 25, 26, 28, 29, 198] (ws' := [(15, .bool true), (16, .pointer (some ⟨O18, 0, none⟩)), (18, .int .i64 (((pk34 : Nat) : Int) : Int)), (19, .int .i64 (s.2 - s.1 : Int)), (20, .pointer (some ⟨O41, 0, none⟩)), (21, .pointer (some ⟨O84, 0, none⟩)), (24, .pointer (some ⟨O203, 0, none⟩)), (25, .int .i64 lk9), (26, .bool true), (28, .int .i64 (sp.1 + ((j : Nat) : Int) : Int)), (29, .int .i64 (-((pk34 : Nat) : Int) + ((q : Nat) : Int) : Int)), (198, .bool false)]) (by kernel_rfl) (fun L => ?_)
                  refine cw_f (by kernel_rfl) ?_
                  refine cw_skip ?_
                  refine qw_then ?_; refine cw_seq ?_; refine cw_seq ?_; refine cw_plain ?_
                  refine pT (.bool true) ?_
                  refine pT (.bool true) ?_
                  refine pT (.int .i64 (sp.1 + ((j : Nat) : Int) : Int)) ?_
                  refine pT (.pointer (some ⟨O203, 0, none⟩)) ?_
                  refine pl_take (.int .i64 b1) rfl (by kernel_rfl) (by kernel_rfl) (by kernel_rfl) (ex_load rfl (by kernel_rfl) (ld3 ((BoxAt.ext (hY235.trans hX231) bO203_0).1))) ?_
                  by_cases hc259 : (sp.1 + ((j : Nat) : Int) : Int) = (b1 : Int)
                  ·
                    refine pl_take (.bool true) rfl (by kernel_rfl) (by kernel_rfl) (by kernel_rfl) (ev_eq (show _ = Result.ok (Next.value (Value.bool ((sp.1 + ((j : Nat) : Int) : Int) == (b1 : Int)))) _ from by kernel_rfl) (hc259)) ?_
                    refine pT (.bool true) ?_
                    refine pT (.bool true) ?_
                    refine pT (.int .i64 (-((pk34 : Nat) : Int) + ((q : Nat) : Int) : Int)) ?_
                    refine pT (.int .i64 (-((pk34 : Nat) : Int) + ((q : Nat) : Int) : Int)) ?_
                    refine pl_take (.int .i64 (-(-((pk34 : Nat) : Int) + ((q : Nat) : Int)) : Int)) rfl (by kernel_rfl) (by kernel_rfl) (by kernel_rfl) (ev_int (ev_wrap (a := 0 - (-((pk34 : Nat) : Int) + ((q : Nat) : Int))) (by kernel_rfl) (by omega) (by omega)) (by omega)) ?_
                    refine pl_take (.int .i64 (max (-((pk34 : Nat) : Int) + ((q : Nat) : Int) : Int) (-(-((pk34 : Nat) : Int) + ((q : Nat) : Int)) : Int) : Int)) rfl (by kernel_rfl) (by kernel_rfl) (by kernel_rfl) (ev_int (show _ = Result.ok (Next.value (Value.int .i64 (if (-((pk34 : Nat) : Int) + ((q : Nat) : Int) : Int) < (-(-((pk34 : Nat) : Int) + ((q : Nat) : Int)) : Int) then (-(-((pk34 : Nat) : Int) + ((q : Nat) : Int)) : Int) else (-((pk34 : Nat) : Int) + ((q : Nat) : Int) : Int)))) _ from by kernel_rfl) (by split <;> omega)) ?_
                    refine pT (.int .i64 lk9) ?_
                    refine pT (.int .i64 lk9) ?_
                    refine pl_take (.int .i64 (-lk9 : Int)) rfl (by kernel_rfl) (by kernel_rfl) (by kernel_rfl) (ev_int (ev_wrap (a := 0 - lk9) (by kernel_rfl) (by omega) (by omega)) (by omega)) ?_
                    refine pl_take (.int .i64 (max (lk9 : Int) (-lk9 : Int) : Int)) rfl (by kernel_rfl) (by kernel_rfl) (by kernel_rfl) (ev_int (show _ = Result.ok (Next.value (Value.int .i64 (if (lk9 : Int) < (-lk9 : Int) then (-lk9 : Int) else (lk9 : Int)))) _ from by kernel_rfl) (by split <;> omega)) ?_
                    by_cases hc260 : (max (-((pk34 : Nat) : Int) + ((q : Nat) : Int) : Int) (-(-((pk34 : Nat) : Int) + ((q : Nat) : Int)) : Int) : Int) > (max (lk9 : Int) (-lk9 : Int) : Int)
                    ·
                      refine pl_take (.bool true) rfl (by kernel_rfl) (by kernel_rfl) (by kernel_rfl) (ev_dec (show _ = Result.ok (Next.value (Value.bool (decide ((max (-((pk34 : Nat) : Int) + ((q : Nat) : Int) : Int) (-(-((pk34 : Nat) : Int) + ((q : Nat) : Int)) : Int) : Int) > (max (lk9 : Int) (-lk9 : Int) : Int))))) _ from by kernel_rfl) (hc260)) ?_
                      refine pT (.bool true) ?_
                      refine pl_nil ?_; refine qw_then ?_
                      refine cw_clean [15, 16, 18, 19, 20, 21, 24, 25, 26, 28, 29, 216] (ws' := [(15, .bool true), (16, .pointer (some ⟨O18, 0, none⟩)), (18, .int .i64 (((pk34 : Nat) : Int) : Int)), (19, .int .i64 (s.2 - s.1 : Int)), (20, .pointer (some ⟨O41, 0, none⟩)), (21, .pointer (some ⟨O84, 0, none⟩)), (24, .pointer (some ⟨O203, 0, none⟩)), (25, .int .i64 lk9), (26, .bool true), (28, .int .i64 (sp.1 + ((j : Nat) : Int) : Int)), (29, .int .i64 (-((pk34 : Nat) : Int) + ((q : Nat) : Int) : Int)), (216, .bool true)]) (by kernel_rfl) (fun L => ?_)
                      refine cw_t (by kernel_rfl) ?_
                      refine cw_exit ?_
                      refine qw_then_exit ?_
                      refine qw_block_out ?_
                      refine qw_then ?_; refine cw_plain ?_
                      refine pT (.int .i64 (-((pk34 : Nat) : Int) + ((q : Nat) : Int) : Int)) ?_
                      refine pl_take (.int .i64 (-((pk34 : Nat) : Int) + ((q + 1 : Nat) : Int) : Int)) rfl (by kernel_rfl) (by kernel_rfl) (by kernel_rfl) (ev_int (ev_wrap (a := -((pk34 : Nat) : Int) + ((q : Nat) : Int) + 1) (by kernel_rfl) (by omega) (by omega)) (by omega)) ?_
                      refine pT (.int .i64 (-((pk34 : Nat) : Int) + ((q + 1 : Nat) : Int) : Int)) ?_
                      refine pl_nil ?_
                      refine qw_round [15, 16, 18, 19, 20, 21, 24, 25, 26, 28, 29] (ws' := [(15, .bool true), (16, .pointer (some ⟨O18, 0, none⟩)), (18, .int .i64 (((pk34 : Nat) : Int) : Int)), (19, .int .i64 (s.2 - s.1 : Int)), (20, .pointer (some ⟨O41, 0, none⟩)), (21, .pointer (some ⟨O84, 0, none⟩)), (24, .pointer (some ⟨O203, 0, none⟩)), (25, .int .i64 lk9), (26, .bool true), (28, .int .i64 (sp.1 + ((j : Nat) : Int) : Int)), (29, .int .i64 (-((pk34 : Nat) : Int) + ((q + 1 : Nat) : Int) : Int))]) (by kernel_rfl) _ ?_ ⟨(q + 1), rfl, rfl, hs232, hE, hX231, by omega⟩
                      omega
                    ·
                      refine pl_take (.bool false) rfl (by kernel_rfl) (by kernel_rfl) (by kernel_rfl) (ev_ndec (show _ = Result.ok (Next.value (Value.bool (decide ((max (-((pk34 : Nat) : Int) + ((q : Nat) : Int) : Int) (-(-((pk34 : Nat) : Int) + ((q : Nat) : Int)) : Int) : Int) > (max (lk9 : Int) (-lk9 : Int) : Int))))) _ from by kernel_rfl) (hc260)) ?_
                      refine pT (.bool false) ?_
                      refine pl_nil ?_; refine qw_then ?_
                      refine cw_clean [15, 16, 18, 19, 20, 21, 24, 25, 26, 28, 29, 216] (ws' := [(15, .bool true), (16, .pointer (some ⟨O18, 0, none⟩)), (18, .int .i64 (((pk34 : Nat) : Int) : Int)), (19, .int .i64 (s.2 - s.1 : Int)), (20, .pointer (some ⟨O41, 0, none⟩)), (21, .pointer (some ⟨O84, 0, none⟩)), (24, .pointer (some ⟨O203, 0, none⟩)), (25, .int .i64 lk9), (26, .bool true), (28, .int .i64 (sp.1 + ((j : Nat) : Int) : Int)), (29, .int .i64 (-((pk34 : Nat) : Int) + ((q : Nat) : Int) : Int)), (216, .bool false)]) (by kernel_rfl) (fun L => ?_)
                      refine cw_f (by kernel_rfl) ?_
                      refine cw_skip ?_
                      refine qw_then ?_; refine cw_seq ?_; refine cw_plain ?_
                      have hY261 := hX97.trans hY235
                      have hY262 := hX24.trans hY261
                      refine pl_take (.agg #[.int .i64 o.p, .int .i64 o.f, .int .i64 o.lo, .int .i64 o.hi, .int .i64 o.nd, .int .i64 o.tn, .int .i64 o.sl]) rfl (by kernel_rfl) (by kernel_rfl) (by kernel_rfl) (ex_load rfl (by kernel_rfl) (ld24 ((BoxAt.ext (hY262.trans hX231) bO18_0).1) ((BoxAt.ext (hY262.trans hX231) bO18_1).1) ((BoxAt.ext (hY262.trans hX231) bO18_2).1) ((BoxAt.ext (hY262.trans hX231) bO18_3).1) ((BoxAt.ext (hY262.trans hX231) bO18_4).1) ((BoxAt.ext (hY262.trans hX231) bO18_5).1) ((BoxAt.ext (hY262.trans hX231) bO18_6).1))) ?_
                      refine pT (.int .i64 (sp.1 + ((j : Nat) : Int) : Int)) ?_
                      refine pT (.int .i64 (sp.1 + ((j : Nat) : Int) : Int)) ?_
                      refine pT (.int .i64 (s.2 - s.1 : Int)) ?_
                      refine pl_take (.int .i64 ((sp.1 + ((j : Nat) : Int)) + (s.2 - s.1) : Int)) rfl (by kernel_rfl) (by kernel_rfl) (by kernel_rfl) (ev_wrap (by kernel_rfl) (by omega) (by omega)) ?_
                      refine pT (.agg #[.int .i64 (sp.1 + ((j : Nat) : Int) : Int), .int .i64 ((sp.1 + ((j : Nat) : Int)) + (s.2 - s.1) : Int)]) ?_
                      refine pT (.int .i64 (-((pk34 : Nat) : Int) + ((q : Nat) : Int) : Int)) ?_
                      refine pl_take (.agg #[.slice (some ⟨B9, 0, none⟩) 24 k9]) rfl (by kernel_rfl) (by kernel_rfl) (by kernel_rfl) (ex_load rfl (by kernel_rfl) (ld31 ((BoxAt.ext (hY235.trans hX231) zb).1))) ?_
                      refine pS (sn_call (f := 24) (args := #[.agg #[.int .i64 o.p, .int .i64 o.f, .int .i64 o.lo, .int .i64 o.hi, .int .i64 o.nd, .int .i64 o.tn, .int .i64 o.sl], .agg #[.int .i64 (sp.1 + ((j : Nat) : Int) : Int), .int .i64 ((sp.1 + ((j : Nat) : Int)) + (s.2 - s.1) : Int)], .int .i64 (-((pk34 : Nat) : Int) + ((q : Nat) : Int) : Int), .agg #[.slice (some ⟨B9, 0, none⟩) 24 k9]]) (by kernel_rfl) ((Shows_r (s := (sp.1 + ((j : Nat) : Int), (sp.1 + ((j : Nat) : Int)) + (s.2 - s.1))) (r := false) _ _ (RowsAt.va (rb.ext (hY235.trans hX231)) (hvl9)).aa (Ext.refl _) (by first | exact hno _ _ (by omega) (by omega) (by omega) (by omega) | (rw [show sp.1 + ((j : Nat) : Int) = b1 by omega]; exact hno2 _ (by omega) (by omega) (by omega)))).mono ?_))
                      rintro e w263 ⟨rfl, hb⟩
                      replace hE := hE.trans hb; replace hX231 := hX231.trans hb; have hs264 := hb.size; clear hb
                      refine ⟨_, rfl, ?_⟩
                      refine pl_nil ?_; refine qw_then ?_
                      refine cw_clean [15, 16, 18, 19, 20, 21, 24, 25, 26, 28, 29, 225] (ws' := [(15, .bool true), (16, .pointer (some ⟨O18, 0, none⟩)), (18, .int .i64 (((pk34 : Nat) : Int) : Int)), (19, .int .i64 (s.2 - s.1 : Int)), (20, .pointer (some ⟨O41, 0, none⟩)), (21, .pointer (some ⟨O84, 0, none⟩)), (24, .pointer (some ⟨O203, 0, none⟩)), (25, .int .i64 lk9), (26, .bool true), (28, .int .i64 (sp.1 + ((j : Nat) : Int) : Int)), (29, .int .i64 (-((pk34 : Nat) : Int) + ((q : Nat) : Int) : Int)), (225, .bool false)]) (by kernel_rfl) (fun L => ?_)
                      refine cw_f (by kernel_rfl) ?_
                      refine cw_skip ?_
                      refine qw_block ?_
                      refine qw_then ?_; refine cw_plain ?_
                      refine pT (.int .i64 (-((pk34 : Nat) : Int) + ((q : Nat) : Int) : Int)) ?_
                      refine pl_take (.int .i64 (-((pk34 : Nat) : Int) + ((q + 1 : Nat) : Int) : Int)) rfl (by kernel_rfl) (by kernel_rfl) (by kernel_rfl) (ev_int (ev_wrap (a := -((pk34 : Nat) : Int) + ((q : Nat) : Int) + 1) (by kernel_rfl) (by omega) (by omega)) (by omega)) ?_
                      refine pT (.int .i64 (-((pk34 : Nat) : Int) + ((q + 1 : Nat) : Int) : Int)) ?_
                      refine pl_nil ?_
                      refine qw_round [15, 16, 18, 19, 20, 21, 24, 25, 26, 28, 29] (ws' := [(15, .bool true), (16, .pointer (some ⟨O18, 0, none⟩)), (18, .int .i64 (((pk34 : Nat) : Int) : Int)), (19, .int .i64 (s.2 - s.1 : Int)), (20, .pointer (some ⟨O41, 0, none⟩)), (21, .pointer (some ⟨O84, 0, none⟩)), (24, .pointer (some ⟨O203, 0, none⟩)), (25, .int .i64 lk9), (26, .bool true), (28, .int .i64 (sp.1 + ((j : Nat) : Int) : Int)), (29, .int .i64 (-((pk34 : Nat) : Int) + ((q + 1 : Nat) : Int) : Int))]) (by kernel_rfl) _ ?_ ⟨(q + 1), rfl, rfl, (T hs232 hs264), hE, hX231, by omega⟩
                      omega
                  ·
                    refine pl_take (.bool false) rfl (by kernel_rfl) (by kernel_rfl) (by kernel_rfl) (ev_neq (show _ = Result.ok (Next.value (Value.bool ((sp.1 + ((j : Nat) : Int) : Int) == (b1 : Int)))) _ from by kernel_rfl) (hc259)) ?_
                    refine pT (.bool false) ?_
                    refine pT (.bool false) ?_
                    refine pl_skip rfl (by kernel_rfl) (by kernel_rfl) (by kernel_rfl) ?_
                    refine pl_skip rfl (by kernel_rfl) (by kernel_rfl) (by kernel_rfl) ?_
                    refine pl_skip rfl (by kernel_rfl) (by kernel_rfl) (by kernel_rfl) ?_
                    refine pl_skip rfl (by kernel_rfl) (by kernel_rfl) (by kernel_rfl) ?_
                    refine pl_skip rfl (by kernel_rfl) (by kernel_rfl) (by kernel_rfl) ?_
                    refine pl_skip rfl (by kernel_rfl) (by kernel_rfl) (by kernel_rfl) ?_
                    refine pl_skip rfl (by kernel_rfl) (by kernel_rfl) (by kernel_rfl) ?_
                    refine pl_skip rfl (by kernel_rfl) (by kernel_rfl) (by kernel_rfl) ?_
                    refine pl_skip rfl (by kernel_rfl) (by kernel_rfl) (by kernel_rfl) ?_
                    refine pT (.bool false) ?_
                    refine pl_nil ?_; refine qw_then ?_
                    refine cw_clean [15, 16, 18, 19, 20, 21, 24, 25, 26, 28, 29, 216] (ws' := [(15, .bool true), (16, .pointer (some ⟨O18, 0, none⟩)), (18, .int .i64 (((pk34 : Nat) : Int) : Int)), (19, .int .i64 (s.2 - s.1 : Int)), (20, .pointer (some ⟨O41, 0, none⟩)), (21, .pointer (some ⟨O84, 0, none⟩)), (24, .pointer (some ⟨O203, 0, none⟩)), (25, .int .i64 lk9), (26, .bool true), (28, .int .i64 (sp.1 + ((j : Nat) : Int) : Int)), (29, .int .i64 (-((pk34 : Nat) : Int) + ((q : Nat) : Int) : Int)), (216, .bool false)]) (by kernel_rfl) (fun L => ?_)
                    refine cw_f (by kernel_rfl) ?_
                    refine cw_skip ?_
                    refine qw_then ?_; refine cw_seq ?_; refine cw_plain ?_
                    have hY265 := hX97.trans hY235
                    have hY266 := hX24.trans hY265
                    refine pl_take (.agg #[.int .i64 o.p, .int .i64 o.f, .int .i64 o.lo, .int .i64 o.hi, .int .i64 o.nd, .int .i64 o.tn, .int .i64 o.sl]) rfl (by kernel_rfl) (by kernel_rfl) (by kernel_rfl) (ex_load rfl (by kernel_rfl) (ld24 ((BoxAt.ext (hY266.trans hX231) bO18_0).1) ((BoxAt.ext (hY266.trans hX231) bO18_1).1) ((BoxAt.ext (hY266.trans hX231) bO18_2).1) ((BoxAt.ext (hY266.trans hX231) bO18_3).1) ((BoxAt.ext (hY266.trans hX231) bO18_4).1) ((BoxAt.ext (hY266.trans hX231) bO18_5).1) ((BoxAt.ext (hY266.trans hX231) bO18_6).1))) ?_
                    refine pT (.int .i64 (sp.1 + ((j : Nat) : Int) : Int)) ?_
                    refine pT (.int .i64 (sp.1 + ((j : Nat) : Int) : Int)) ?_
                    refine pT (.int .i64 (s.2 - s.1 : Int)) ?_
                    refine pl_take (.int .i64 ((sp.1 + ((j : Nat) : Int)) + (s.2 - s.1) : Int)) rfl (by kernel_rfl) (by kernel_rfl) (by kernel_rfl) (ev_wrap (by kernel_rfl) (by omega) (by omega)) ?_
                    refine pT (.agg #[.int .i64 (sp.1 + ((j : Nat) : Int) : Int), .int .i64 ((sp.1 + ((j : Nat) : Int)) + (s.2 - s.1) : Int)]) ?_
                    refine pT (.int .i64 (-((pk34 : Nat) : Int) + ((q : Nat) : Int) : Int)) ?_
                    refine pl_take (.agg #[.slice (some ⟨B9, 0, none⟩) 24 k9]) rfl (by kernel_rfl) (by kernel_rfl) (by kernel_rfl) (ex_load rfl (by kernel_rfl) (ld31 ((BoxAt.ext (hY235.trans hX231) zb).1))) ?_
                    refine pS (sn_call (f := 24) (args := #[.agg #[.int .i64 o.p, .int .i64 o.f, .int .i64 o.lo, .int .i64 o.hi, .int .i64 o.nd, .int .i64 o.tn, .int .i64 o.sl], .agg #[.int .i64 (sp.1 + ((j : Nat) : Int) : Int), .int .i64 ((sp.1 + ((j : Nat) : Int)) + (s.2 - s.1) : Int)], .int .i64 (-((pk34 : Nat) : Int) + ((q : Nat) : Int) : Int), .agg #[.slice (some ⟨B9, 0, none⟩) 24 k9]]) (by kernel_rfl) ((Shows_r (s := (sp.1 + ((j : Nat) : Int), (sp.1 + ((j : Nat) : Int)) + (s.2 - s.1))) (r := false) _ _ (RowsAt.va (rb.ext (hY235.trans hX231)) (hvl9)).aa (Ext.refl _) (by first | exact hno _ _ (by omega) (by omega) (by omega) (by omega) | (rw [show sp.1 + ((j : Nat) : Int) = b1 by omega]; exact hno2 _ (by omega) (by omega) (by omega)))).mono ?_))
                    rintro e w267 ⟨rfl, hb⟩
                    replace hE := hE.trans hb; replace hX231 := hX231.trans hb; have hs268 := hb.size; clear hb
                    refine ⟨_, rfl, ?_⟩
                    refine pl_nil ?_; refine qw_then ?_
                    refine cw_clean [15, 16, 18, 19, 20, 21, 24, 25, 26, 28, 29, 225] (ws' := [(15, .bool true), (16, .pointer (some ⟨O18, 0, none⟩)), (18, .int .i64 (((pk34 : Nat) : Int) : Int)), (19, .int .i64 (s.2 - s.1 : Int)), (20, .pointer (some ⟨O41, 0, none⟩)), (21, .pointer (some ⟨O84, 0, none⟩)), (24, .pointer (some ⟨O203, 0, none⟩)), (25, .int .i64 lk9), (26, .bool true), (28, .int .i64 (sp.1 + ((j : Nat) : Int) : Int)), (29, .int .i64 (-((pk34 : Nat) : Int) + ((q : Nat) : Int) : Int)), (225, .bool false)]) (by kernel_rfl) (fun L => ?_)
                    refine cw_f (by kernel_rfl) ?_
                    refine cw_skip ?_
                    refine qw_block ?_
                    refine qw_then ?_; refine cw_plain ?_
                    refine pT (.int .i64 (-((pk34 : Nat) : Int) + ((q : Nat) : Int) : Int)) ?_
                    refine pl_take (.int .i64 (-((pk34 : Nat) : Int) + ((q + 1 : Nat) : Int) : Int)) rfl (by kernel_rfl) (by kernel_rfl) (by kernel_rfl) (ev_int (ev_wrap (a := -((pk34 : Nat) : Int) + ((q : Nat) : Int) + 1) (by kernel_rfl) (by omega) (by omega)) (by omega)) ?_
                    refine pT (.int .i64 (-((pk34 : Nat) : Int) + ((q + 1 : Nat) : Int) : Int)) ?_
                    refine pl_nil ?_
                    refine qw_round [15, 16, 18, 19, 20, 21, 24, 25, 26, 28, 29] (ws' := [(15, .bool true), (16, .pointer (some ⟨O18, 0, none⟩)), (18, .int .i64 (((pk34 : Nat) : Int) : Int)), (19, .int .i64 (s.2 - s.1 : Int)), (20, .pointer (some ⟨O41, 0, none⟩)), (21, .pointer (some ⟨O84, 0, none⟩)), (24, .pointer (some ⟨O203, 0, none⟩)), (25, .int .i64 lk9), (26, .bool true), (28, .int .i64 (sp.1 + ((j : Nat) : Int) : Int)), (29, .int .i64 (-((pk34 : Nat) : Int) + ((q + 1 : Nat) : Int) : Int))]) (by kernel_rfl) _ ?_ ⟨(q + 1), rfl, rfl, (T hs232 hs268), hE, hX231, by omega⟩
                    omega
              ·
                refine cw_seq ?_; refine cw_seq ?_; refine cw_plain ?_
                refine pT (.int .i64 (-((pk34 : Nat) : Int) + ((q : Nat) : Int) : Int)) ?_
                refine pT (.int .i64 (((pk34 : Nat) : Int) : Int)) ?_
                refine pl_take (.bool false) rfl (by kernel_rfl) (by kernel_rfl) (by kernel_rfl) (ev_ndec (show _ = Result.ok (Next.value (Value.bool (decide ((-((pk34 : Nat) : Int) + ((q : Nat) : Int) : Int) ≤ (((pk34 : Nat) : Int) : Int))))) _ from by kernel_rfl) (by omega)) ?_
                refine pl_nil ?_; refine qw_then ?_
                refine cw_f (by kernel_rfl) ?_
                refine cw_exit ?_
                refine qw_then_exit ?_
                refine qw_then_exit ?_
                refine qw_block_out ?_
                refine qw_block ?_
                refine qw_then ?_; refine cw_plain ?_
                refine pT (.int .i64 (sp.1 + ((j : Nat) : Int) : Int)) ?_
                refine pl_take (.int .i64 (sp.1 + ((j + 1 : Nat) : Int) : Int)) rfl (by kernel_rfl) (by kernel_rfl) (by kernel_rfl) (ev_int (ev_wrap (a := sp.1 + ((j : Nat) : Int) + 1) (by kernel_rfl) (by omega) (by omega)) (by omega)) ?_
                refine pT (.int .i64 (sp.1 + ((j + 1 : Nat) : Int) : Int)) ?_
                refine pl_nil ?_
                refine qw_round [15, 16, 18, 19, 20, 21, 24, 25, 26, 28] (ws' := [(15, .bool true), (16, .pointer (some ⟨O18, 0, none⟩)), (18, .int .i64 (((pk34 : Nat) : Int) : Int)), (19, .int .i64 (s.2 - s.1 : Int)), (20, .pointer (some ⟨O41, 0, none⟩)), (21, .pointer (some ⟨O84, 0, none⟩)), (24, .pointer (some ⟨O203, 0, none⟩)), (25, .int .i64 lk9), (26, .bool true), (28, .int .i64 (sp.1 + ((j + 1 : Nat) : Int) : Int))]) (by kernel_rfl) _ ?_ ⟨(j + 1), rfl, rfl, (T hs226 hs232), hE, (hX225.trans hX231), by omega⟩
                omega
          ·
            refine cw_seq ?_; refine cw_seq ?_; refine cw_plain ?_
            refine pT (.int .i64 (sp.1 + ((j : Nat) : Int) : Int)) ?_
            refine pT (.int .i64 (s.2 - s.1 : Int)) ?_
            refine pl_take (.int .i64 ((sp.1 + ((j : Nat) : Int)) + (s.2 - s.1) : Int)) rfl (by kernel_rfl) (by kernel_rfl) (by kernel_rfl) (ev_wrap (by kernel_rfl) (by omega) (by omega)) ?_
            refine pT (.pointer (some ⟨O41, 1, none⟩)) ?_
            have hY269 := hX97.trans hX221
            refine pl_take (.int .i64 sp.2) rfl (by kernel_rfl) (by kernel_rfl) (by kernel_rfl) (ex_load rfl (by kernel_rfl) (ld3 ((BoxAt.ext (hY269.trans hX225) bO41_1).1))) ?_
            refine pl_take (.bool false) rfl (by kernel_rfl) (by kernel_rfl) (by kernel_rfl) (ev_ndec (show _ = Result.ok (Next.value (Value.bool (decide (((sp.1 + ((j : Nat) : Int)) + (s.2 - s.1) : Int) ≤ (sp.2 : Int))))) _ from by kernel_rfl) (by omega)) ?_
            refine pl_nil ?_; refine qw_then ?_
            refine cw_clean [15, 16, 18, 19, 20, 21, 24, 25, 26, 28, 159] (ws' := [(15, .bool true), (16, .pointer (some ⟨O18, 0, none⟩)), (18, .int .i64 (((pk34 : Nat) : Int) : Int)), (19, .int .i64 (s.2 - s.1 : Int)), (20, .pointer (some ⟨O41, 0, none⟩)), (21, .pointer (some ⟨O84, 0, none⟩)), (24, .pointer (some ⟨O203, 0, none⟩)), (25, .int .i64 lk9), (26, .bool true), (28, .int .i64 (sp.1 + ((j : Nat) : Int) : Int)), (159, .bool false)]) (by kernel_rfl) (fun L => ?_)
            refine cw_f (by kernel_rfl) ?_
            refine cw_exit ?_
            refine qw_then_exit ?_
            refine qw_then_exit ?_
            refine qw_block_out ?_
            refine qw_then ?_; refine cw_seq ?_; refine cw_plain ?_
            refine pT (.bool true) ?_
            refine pT (.bool true) ?_
            refine pl_nil ?_; refine qw_then ?_
            refine cw_ret ?_
            refine qw_ret [.bool true] rfl ⟨(by kernel_rfl), trivial⟩ ?_
            exact ⟨rfl, hE⟩
        ·
          subst ht
          have hX270 : Ext X207 X207 := Ext.refl _
          refine cw_plain ?_
          refine pT (.int .i64 0) ?_
          refine pT (.bool false) ?_
          refine pT (.bool false) ?_
          refine pT (.bool false) ?_
          refine pT (.bool false) ?_
          refine pl_skip rfl (by kernel_rfl) (by kernel_rfl) (by kernel_rfl) ?_
          refine pl_skip rfl (by kernel_rfl) (by kernel_rfl) (by kernel_rfl) ?_
          refine pT (.bool false) ?_
          refine pT (.bool false) ?_
          refine pl_nil ?_; refine qw_then ?_
          refine cw_clean [15, 16, 18, 19, 20, 21, 24, 25, 26, 97] (ws' := [(15, .bool true), (16, .pointer (some ⟨O18, 0, none⟩)), (18, .int .i64 (((pk34 : Nat) : Int) : Int)), (19, .int .i64 (s.2 - s.1 : Int)), (20, .pointer (some ⟨O41, 0, none⟩)), (21, .pointer (some ⟨O84, 0, none⟩)), (24, .pointer (some ⟨O203, 0, none⟩)), (25, .int .i64 lk9), (26, .bool true), (97, .bool false)]) (by kernel_rfl) (fun L => ?_)
          refine cw_f (by kernel_rfl) ?_
          refine cw_skip ?_
          refine qw_then ?_; refine cw_seq ?_; refine cw_seq ?_; refine cw_plain ?_
          refine pT (.bool true) ?_
          refine pT (.bool true) ?_
          refine pT (.pointer (some ⟨O203, 0, none⟩)) ?_
          refine pl_take (.int .i64 b1) rfl (by kernel_rfl) (by kernel_rfl) (by kernel_rfl) (ex_load rfl (by kernel_rfl) (ld3 (bO203_0.1))) ?_
          refine pT (.pointer (some ⟨O41, 0, none⟩)) ?_
          refine pl_take (.int .i64 sp.1) rfl (by kernel_rfl) (by kernel_rfl) (by kernel_rfl) (ex_load rfl (by kernel_rfl) (ld3 ((BoxAt.ext (hX97.trans hX270) bO41_0).1))) ?_
          refine pl_take (.bool false) rfl (by kernel_rfl) (by kernel_rfl) (by kernel_rfl) (ev_ndec (show _ = Result.ok (Next.value (Value.bool (decide ((b1 : Int) < (sp.1 : Int))))) _ from by kernel_rfl) (by omega)) ?_
          refine pT (.bool false) ?_
          refine pT (.pointer (some ⟨O203, 1, none⟩)) ?_
          refine pl_take (.int .i64 b2) rfl (by kernel_rfl) (by kernel_rfl) (by kernel_rfl) (ex_load rfl (by kernel_rfl) (ld3 (bO203_1.1))) ?_
          refine pT (.pointer (some ⟨O41, 1, none⟩)) ?_
          refine pl_take (.int .i64 sp.2) rfl (by kernel_rfl) (by kernel_rfl) (by kernel_rfl) (ex_load rfl (by kernel_rfl) (ld3 ((BoxAt.ext (hX97.trans hX270) bO41_1).1))) ?_
          refine pl_take (.bool false) rfl (by kernel_rfl) (by kernel_rfl) (by kernel_rfl) (ev_ndec (show _ = Result.ok (Next.value (Value.bool (decide ((b2 : Int) > (sp.2 : Int))))) _ from by kernel_rfl) (by omega)) ?_
          refine pT (.bool false) ?_
          refine pT (.bool false) ?_
          refine pT (.pointer (some ⟨O203, 1, none⟩)) ?_
          refine pl_take (.int .i64 b2) rfl (by kernel_rfl) (by kernel_rfl) (by kernel_rfl) (ex_load rfl (by kernel_rfl) (ld3 (bO203_1.1))) ?_
          refine pT (.pointer (some ⟨O203, 0, none⟩)) ?_
          refine pl_take (.int .i64 b1) rfl (by kernel_rfl) (by kernel_rfl) (by kernel_rfl) (ex_load rfl (by kernel_rfl) (ld3 (bO203_0.1))) ?_
          refine pl_take (.int .i64 (b2 - b1 : Int)) rfl (by kernel_rfl) (by kernel_rfl) (by kernel_rfl) (ev_wrap (by kernel_rfl) (by omega) (by omega)) ?_
          refine pT (.int .i64 (s.2 - s.1 : Int)) ?_
          refine pl_take (.bool false) rfl (by kernel_rfl) (by kernel_rfl) (by kernel_rfl) (ev_nne (show _ = Result.ok (Next.value (Value.bool ((b2 - b1 : Int) != (s.2 - s.1 : Int)))) _ from by kernel_rfl) (by omega)) ?_
          refine pT (.bool false) ?_
          refine pT (.bool false) ?_
          refine pT (.int .i64 lk9) ?_
          refine pT (.int .i64 (((pk34 : Nat) : Int) : Int)) ?_
          refine pl_take (.int .i64 (-(((pk34 : Nat) : Int)) : Int)) rfl (by kernel_rfl) (by kernel_rfl) (by kernel_rfl) (ev_int (ev_wrap (a := 0 - (((pk34 : Nat) : Int))) (by kernel_rfl) (by omega) (by omega)) (by omega)) ?_
          refine pl_take (.bool false) rfl (by kernel_rfl) (by kernel_rfl) (by kernel_rfl) (ev_ndec (show _ = Result.ok (Next.value (Value.bool (decide ((lk9 : Int) < (-(((pk34 : Nat) : Int)) : Int))))) _ from by kernel_rfl) (by omega)) ?_
          refine pT (.bool false) ?_
          refine pT (.bool false) ?_
          refine pT (.int .i64 lk9) ?_
          refine pT (.int .i64 (((pk34 : Nat) : Int) : Int)) ?_
          refine pl_take (.bool false) rfl (by kernel_rfl) (by kernel_rfl) (by kernel_rfl) (ev_ndec (show _ = Result.ok (Next.value (Value.bool (decide ((lk9 : Int) > (((pk34 : Nat) : Int) : Int))))) _ from by kernel_rfl) (by omega)) ?_
          refine pT (.bool false) ?_
          refine pT (.bool false) ?_
          have hY271 := hX24.trans hX97
          refine pl_take (.agg #[.int .i64 o.p, .int .i64 o.f, .int .i64 o.lo, .int .i64 o.hi, .int .i64 o.nd, .int .i64 o.tn, .int .i64 o.sl]) rfl (by kernel_rfl) (by kernel_rfl) (by kernel_rfl) (ex_load rfl (by kernel_rfl) (ld24 ((BoxAt.ext (hY271.trans hX270) bO18_0).1) ((BoxAt.ext (hY271.trans hX270) bO18_1).1) ((BoxAt.ext (hY271.trans hX270) bO18_2).1) ((BoxAt.ext (hY271.trans hX270) bO18_3).1) ((BoxAt.ext (hY271.trans hX270) bO18_4).1) ((BoxAt.ext (hY271.trans hX270) bO18_5).1) ((BoxAt.ext (hY271.trans hX270) bO18_6).1))) ?_
          refine pl_take (.agg #[.int .i64 b1, .int .i64 b2]) rfl (by kernel_rfl) (by kernel_rfl) (by kernel_rfl) (ex_load rfl (by kernel_rfl) (ld26 (bO203_0.1) (bO203_1.1))) ?_
          refine pT (.int .i64 lk9) ?_
          refine pl_take (.agg #[.slice (some ⟨B9, 0, none⟩) 24 k9]) rfl (by kernel_rfl) (by kernel_rfl) (by kernel_rfl) (ex_load rfl (by kernel_rfl) (ld31 (zb.1))) ?_
          refine pS (sn_call (f := 24) (args := #[.agg #[.int .i64 o.p, .int .i64 o.f, .int .i64 o.lo, .int .i64 o.hi, .int .i64 o.nd, .int .i64 o.tn, .int .i64 o.sl], .agg #[.int .i64 b1, .int .i64 b2], .int .i64 lk9, .agg #[.slice (some ⟨B9, 0, none⟩) 24 k9]]) (by kernel_rfl) ((Shows_r (s := (b1, b2)) (r := true) _ _ (RowsAt.va rb (hvl9)).aa (Ext.refl _) hsh9).mono ?_))
          rintro e w272 ⟨rfl, hb⟩
          replace hE := hE.trans hb; replace hX270 := hX270.trans hb; have hs273 := hb.size; clear hb
          refine ⟨_, rfl, ?_⟩
          refine pT (.bool false) ?_
          refine pT (.bool false) ?_
          refine pT (.bool false) ?_
          refine pl_nil ?_; refine qw_then ?_
          refine cw_clean [15, 16, 18, 19, 20, 21, 24, 25, 26, 140] (ws' := [(15, .bool true), (16, .pointer (some ⟨O18, 0, none⟩)), (18, .int .i64 (((pk34 : Nat) : Int) : Int)), (19, .int .i64 (s.2 - s.1 : Int)), (20, .pointer (some ⟨O41, 0, none⟩)), (21, .pointer (some ⟨O84, 0, none⟩)), (24, .pointer (some ⟨O203, 0, none⟩)), (25, .int .i64 lk9), (26, .bool true), (140, .bool false)]) (by kernel_rfl) (fun L => ?_)
          refine cw_f (by kernel_rfl) ?_
          refine cw_skip ?_
          refine qw_then ?_; refine cw_seq ?_; refine cw_seq ?_; refine cw_plain ?_
          refine pT (.bool true) ?_
          refine pT (.bool false) ?_
          refine pT (.bool false) ?_
          refine pl_skip rfl (by kernel_rfl) (by kernel_rfl) (by kernel_rfl) ?_
          refine pl_skip rfl (by kernel_rfl) (by kernel_rfl) (by kernel_rfl) ?_
          refine pl_skip rfl (by kernel_rfl) (by kernel_rfl) (by kernel_rfl) ?_
          refine pl_skip rfl (by kernel_rfl) (by kernel_rfl) (by kernel_rfl) ?_
          refine pl_skip rfl (by kernel_rfl) (by kernel_rfl) (by kernel_rfl) ?_
          refine pl_skip rfl (by kernel_rfl) (by kernel_rfl) (by kernel_rfl) ?_
          refine pl_skip rfl (by kernel_rfl) (by kernel_rfl) (by kernel_rfl) ?_
          refine pT (.bool false) ?_
          refine pl_nil ?_; refine qw_then ?_
          refine cw_clean [15, 16, 18, 19, 20, 21, 24, 25, 26, 151] (ws' := [(15, .bool true), (16, .pointer (some ⟨O18, 0, none⟩)), (18, .int .i64 (((pk34 : Nat) : Int) : Int)), (19, .int .i64 (s.2 - s.1 : Int)), (20, .pointer (some ⟨O41, 0, none⟩)), (21, .pointer (some ⟨O84, 0, none⟩)), (24, .pointer (some ⟨O203, 0, none⟩)), (25, .int .i64 lk9), (26, .bool true), (151, .bool false)]) (by kernel_rfl) (fun L => ?_)
          refine cw_f (by kernel_rfl) ?_
          refine cw_skip ?_
          refine qw_then ?_; refine cw_seq ?_; refine cw_seq ?_; refine cw_plain ?_
          refine pT (.pointer (some ⟨O41, 0, none⟩)) ?_
          refine pl_take (.int .i64 sp.1) rfl (by kernel_rfl) (by kernel_rfl) (by kernel_rfl) (ex_load rfl (by kernel_rfl) (ld3 ((BoxAt.ext (hX97.trans hX270) bO41_0).1))) ?_
          refine pl_take (.int .i64 (sp.1 + ((0 : Nat) : Int) : Int)) rfl (by kernel_rfl) (by kernel_rfl) (by kernel_rfl) (ev_int (show _ = Result.ok (Next.value (Value.int .i64 sp.1)) _ from by kernel_rfl) (by omega)) ?_
          refine pl_nil ?_; refine qw_then ?_
          refine cw_block ?_
          have hX274 : Ext w272 w272 := Ext.refl _
          refine cw_loop [15, 16, 18, 19, 20, 21, 24, 25, 26, 28] (fun ws' wr m => ∃ j : Nat, ws' = [(15, .bool true), (16, .pointer (some ⟨O18, 0, none⟩)), (18, .int .i64 (((pk34 : Nat) : Int) : Int)), (19, .int .i64 (s.2 - s.1 : Int)), (20, .pointer (some ⟨O41, 0, none⟩)), (21, .pointer (some ⟨O84, 0, none⟩)), (24, .pointer (some ⟨O203, 0, none⟩)), (25, .int .i64 lk9), (26, .bool true), (28, .int .i64 (sp.1 + ((j : Nat) : Int) : Int))] ∧ m = (sp.2 - sp.1 - (s.2 - s.1) + 1).toNat - j ∧ w272.heap.size ≤ wr.heap.size ∧ Ext w wr ∧ Ext w272 wr ∧ j ≤ (sp.2 - sp.1 - (s.2 - s.1) + 1).toNat) (ws0 := [(15, .bool true), (16, .pointer (some ⟨O18, 0, none⟩)), (18, .int .i64 (((pk34 : Nat) : Int) : Int)), (19, .int .i64 (s.2 - s.1 : Int)), (20, .pointer (some ⟨O41, 0, none⟩)), (21, .pointer (some ⟨O84, 0, none⟩)), (24, .pointer (some ⟨O203, 0, none⟩)), (25, .int .i64 lk9), (26, .bool true), (28, .int .i64 (sp.1 + ((0 : Nat) : Int) : Int))]) (by kernel_rfl) _ ⟨0, rfl, rfl, Nat.le_refl _, hE, hX274, Nat.zero_le _⟩ ?_
          clear hE hX274
          rintro m277 L ws w276 ⟨j, rfl, rfl, hs275, hE, hX274, hj⟩
          by_cases hlt : j < (sp.2 - sp.1 - (s.2 - s.1) + 1).toNat
          ·
            refine cw_seq ?_; refine cw_seq ?_; refine cw_plain ?_
            refine pT (.int .i64 (sp.1 + ((j : Nat) : Int) : Int)) ?_
            refine pT (.int .i64 (s.2 - s.1 : Int)) ?_
            refine pl_take (.int .i64 ((sp.1 + ((j : Nat) : Int)) + (s.2 - s.1) : Int)) rfl (by kernel_rfl) (by kernel_rfl) (by kernel_rfl) (ev_wrap (by kernel_rfl) (by omega) (by omega)) ?_
            refine pT (.pointer (some ⟨O41, 1, none⟩)) ?_
            have hY278 := hX97.trans hX270
            refine pl_take (.int .i64 sp.2) rfl (by kernel_rfl) (by kernel_rfl) (by kernel_rfl) (ex_load rfl (by kernel_rfl) (ld3 ((BoxAt.ext (hY278.trans hX274) bO41_1).1))) ?_
            refine pl_take (.bool true) rfl (by kernel_rfl) (by kernel_rfl) (by kernel_rfl) (ev_dec (show _ = Result.ok (Next.value (Value.bool (decide (((sp.1 + ((j : Nat) : Int)) + (s.2 - s.1) : Int) ≤ (sp.2 : Int))))) _ from by kernel_rfl) (by omega)) ?_
            refine pl_nil ?_; refine qw_then ?_
            refine cw_clean [15, 16, 18, 19, 20, 21, 24, 25, 26, 28, 159] (ws' := [(15, .bool true), (16, .pointer (some ⟨O18, 0, none⟩)), (18, .int .i64 (((pk34 : Nat) : Int) : Int)), (19, .int .i64 (s.2 - s.1 : Int)), (20, .pointer (some ⟨O41, 0, none⟩)), (21, .pointer (some ⟨O84, 0, none⟩)), (24, .pointer (some ⟨O203, 0, none⟩)), (25, .int .i64 lk9), (26, .bool true), (28, .int .i64 (sp.1 + ((j : Nat) : Int) : Int)), (159, .bool true)]) (by kernel_rfl) (fun L => ?_)
            refine cw_t (by kernel_rfl) ?_
            refine cw_skip ?_
            refine qw_then ?_; refine cw_seq ?_
            refine cw_block ?_
            refine cw_seq ?_; refine cw_seq ?_
            have hlt9 := hlt; clear hlt
            refine cw_plain ?_
            refine pT (.bool true) ?_
            refine pT (.bool true) ?_
            refine pT (.int .i64 (sp.1 + ((j : Nat) : Int) : Int)) ?_
            refine pT (.pointer (some ⟨O203, 0, none⟩)) ?_
            refine pl_take (.int .i64 b1) rfl (by kernel_rfl) (by kernel_rfl) (by kernel_rfl) (ex_load rfl (by kernel_rfl) (ld3 ((BoxAt.ext (hX270.trans hX274) bO203_0).1))) ?_
            by_cases hc279 : (sp.1 + ((j : Nat) : Int) : Int) > (b1 : Int)
            ·
              refine pl_take (.bool true) rfl (by kernel_rfl) (by kernel_rfl) (by kernel_rfl) (ev_dec (show _ = Result.ok (Next.value (Value.bool (decide ((sp.1 + ((j : Nat) : Int) : Int) > (b1 : Int))))) _ from by kernel_rfl) (hc279)) ?_
              refine pT (.bool true) ?_
              refine pl_nil ?_; refine qw_then ?_
              refine cw_clean [15, 16, 18, 19, 20, 21, 24, 25, 26, 28, 168] (ws' := [(15, .bool true), (16, .pointer (some ⟨O18, 0, none⟩)), (18, .int .i64 (((pk34 : Nat) : Int) : Int)), (19, .int .i64 (s.2 - s.1 : Int)), (20, .pointer (some ⟨O41, 0, none⟩)), (21, .pointer (some ⟨O84, 0, none⟩)), (24, .pointer (some ⟨O203, 0, none⟩)), (25, .int .i64 lk9), (26, .bool true), (28, .int .i64 (sp.1 + ((j : Nat) : Int) : Int)), (168, .bool true)]) (by kernel_rfl) (fun L => ?_)
              refine cw_t (by kernel_rfl) ?_
              refine cw_exit ?_
              refine qw_then_exit ?_
              refine qw_block_on (by decide) ?_
              refine qw_then_exit ?_
              refine qw_then_exit ?_
              refine qw_block_out ?_
              refine qw_then ?_; refine cw_seq ?_; refine cw_plain ?_
              refine pT (.bool true) ?_
              refine pT (.bool true) ?_
              refine pl_nil ?_; refine qw_then ?_
              refine cw_ret ?_
              refine qw_ret [.bool true] rfl ⟨(by kernel_rfl), trivial⟩ ?_
              exact ⟨rfl, hE⟩
            ·
              refine pl_take (.bool false) rfl (by kernel_rfl) (by kernel_rfl) (by kernel_rfl) (ev_ndec (show _ = Result.ok (Next.value (Value.bool (decide ((sp.1 + ((j : Nat) : Int) : Int) > (b1 : Int))))) _ from by kernel_rfl) (hc279)) ?_
              refine pT (.bool false) ?_
              refine pl_nil ?_; refine qw_then ?_
              refine cw_clean [15, 16, 18, 19, 20, 21, 24, 25, 26, 28, 168] (ws' := [(15, .bool true), (16, .pointer (some ⟨O18, 0, none⟩)), (18, .int .i64 (((pk34 : Nat) : Int) : Int)), (19, .int .i64 (s.2 - s.1 : Int)), (20, .pointer (some ⟨O41, 0, none⟩)), (21, .pointer (some ⟨O84, 0, none⟩)), (24, .pointer (some ⟨O203, 0, none⟩)), (25, .int .i64 lk9), (26, .bool true), (28, .int .i64 (sp.1 + ((j : Nat) : Int) : Int)), (168, .bool false)]) (by kernel_rfl) (fun L => ?_)
              refine cw_f (by kernel_rfl) ?_
              refine cw_skip ?_
              refine qw_then ?_; refine cw_seq ?_; refine cw_plain ?_
              refine pT (.int .i64 (((pk34 : Nat) : Int) : Int)) ?_
              refine pl_take (.int .i64 (-(((pk34 : Nat) : Int)) : Int)) rfl (by kernel_rfl) (by kernel_rfl) (by kernel_rfl) (ev_int (ev_wrap (a := 0 - (((pk34 : Nat) : Int))) (by kernel_rfl) (by omega) (by omega)) (by omega)) ?_
              refine pl_take (.int .i64 (-((pk34 : Nat) : Int) + ((0 : Nat) : Int) : Int)) rfl (by kernel_rfl) (by kernel_rfl) (by kernel_rfl) (ev_int (show _ = Result.ok (Next.value (Value.int .i64 (-((pk34 : Nat) : Int)))) _ from by kernel_rfl) (by omega)) ?_
              refine pl_nil ?_; refine qw_then ?_
              refine cw_block ?_
              have hX280 : Ext w276 w276 := Ext.refl _
              refine cw_loop [15, 16, 18, 19, 20, 21, 24, 25, 26, 28, 29] (fun ws' wr m => ∃ q : Nat, ws' = [(15, .bool true), (16, .pointer (some ⟨O18, 0, none⟩)), (18, .int .i64 (((pk34 : Nat) : Int) : Int)), (19, .int .i64 (s.2 - s.1 : Int)), (20, .pointer (some ⟨O41, 0, none⟩)), (21, .pointer (some ⟨O84, 0, none⟩)), (24, .pointer (some ⟨O203, 0, none⟩)), (25, .int .i64 lk9), (26, .bool true), (28, .int .i64 (sp.1 + ((j : Nat) : Int) : Int)), (29, .int .i64 (-((pk34 : Nat) : Int) + ((q : Nat) : Int) : Int))] ∧ m = 2 * pk34 + 1 - q ∧ w276.heap.size ≤ wr.heap.size ∧ Ext w wr ∧ Ext w276 wr ∧ q ≤ 2 * pk34 + 1) (ws0 := [(15, .bool true), (16, .pointer (some ⟨O18, 0, none⟩)), (18, .int .i64 (((pk34 : Nat) : Int) : Int)), (19, .int .i64 (s.2 - s.1 : Int)), (20, .pointer (some ⟨O41, 0, none⟩)), (21, .pointer (some ⟨O84, 0, none⟩)), (24, .pointer (some ⟨O203, 0, none⟩)), (25, .int .i64 lk9), (26, .bool true), (28, .int .i64 (sp.1 + ((j : Nat) : Int) : Int)), (29, .int .i64 (-((pk34 : Nat) : Int) + ((0 : Nat) : Int) : Int))]) (by kernel_rfl) _ ⟨0, rfl, rfl, Nat.le_refl _, hE, hX280, Nat.zero_le _⟩ ?_
              clear hE hX280
              rintro m283 L ws w282 ⟨q, rfl, rfl, hs281, hE, hX280, hq⟩
              by_cases hlt : q < 2 * pk34 + 1
              ·
                refine cw_seq ?_; refine cw_seq ?_; refine cw_plain ?_
                refine pT (.int .i64 (-((pk34 : Nat) : Int) + ((q : Nat) : Int) : Int)) ?_
                refine pT (.int .i64 (((pk34 : Nat) : Int) : Int)) ?_
                refine pl_take (.bool true) rfl (by kernel_rfl) (by kernel_rfl) (by kernel_rfl) (ev_dec (show _ = Result.ok (Next.value (Value.bool (decide ((-((pk34 : Nat) : Int) + ((q : Nat) : Int) : Int) ≤ (((pk34 : Nat) : Int) : Int))))) _ from by kernel_rfl) (by omega)) ?_
                refine pl_nil ?_; refine qw_then ?_
                refine cw_t (by kernel_rfl) ?_
                refine cw_skip ?_
                refine qw_then ?_; refine cw_seq ?_
                refine cw_block ?_
                refine cw_seq ?_; refine cw_seq ?_; refine cw_plain ?_
                refine pT (.bool true) ?_
                refine pT (.bool true) ?_
                refine pT (.int .i64 (sp.1 + ((j : Nat) : Int) : Int)) ?_
                refine pT (.pointer (some ⟨O203, 0, none⟩)) ?_
                have hY284 := hX270.trans hX274
                refine pl_take (.int .i64 b1) rfl (by kernel_rfl) (by kernel_rfl) (by kernel_rfl) (ex_load rfl (by kernel_rfl) (ld3 ((BoxAt.ext (hY284.trans hX280) bO203_0).1))) ?_
                by_cases hc285 : (sp.1 + ((j : Nat) : Int) : Int) = (b1 : Int)
                ·
                  refine pl_take (.bool true) rfl (by kernel_rfl) (by kernel_rfl) (by kernel_rfl) (ev_eq (show _ = Result.ok (Next.value (Value.bool ((sp.1 + ((j : Nat) : Int) : Int) == (b1 : Int)))) _ from by kernel_rfl) (hc285)) ?_
                  refine pT (.bool true) ?_
                  refine pT (.bool true) ?_
                  refine pT (.int .i64 (-((pk34 : Nat) : Int) + ((q : Nat) : Int) : Int)) ?_
                  refine pT (.int .i64 (-((pk34 : Nat) : Int) + ((q : Nat) : Int) : Int)) ?_
                  refine pl_take (.int .i64 (-(-((pk34 : Nat) : Int) + ((q : Nat) : Int)) : Int)) rfl (by kernel_rfl) (by kernel_rfl) (by kernel_rfl) (ev_int (ev_wrap (a := 0 - (-((pk34 : Nat) : Int) + ((q : Nat) : Int))) (by kernel_rfl) (by omega) (by omega)) (by omega)) ?_
                  refine pl_take (.int .i64 (max (-((pk34 : Nat) : Int) + ((q : Nat) : Int) : Int) (-(-((pk34 : Nat) : Int) + ((q : Nat) : Int)) : Int) : Int)) rfl (by kernel_rfl) (by kernel_rfl) (by kernel_rfl) (ev_int (show _ = Result.ok (Next.value (Value.int .i64 (if (-((pk34 : Nat) : Int) + ((q : Nat) : Int) : Int) < (-(-((pk34 : Nat) : Int) + ((q : Nat) : Int)) : Int) then (-(-((pk34 : Nat) : Int) + ((q : Nat) : Int)) : Int) else (-((pk34 : Nat) : Int) + ((q : Nat) : Int) : Int)))) _ from by kernel_rfl) (by split <;> omega)) ?_
                  refine pT (.int .i64 lk9) ?_
                  refine pT (.int .i64 lk9) ?_
                  refine pl_take (.int .i64 (-lk9 : Int)) rfl (by kernel_rfl) (by kernel_rfl) (by kernel_rfl) (ev_int (ev_wrap (a := 0 - lk9) (by kernel_rfl) (by omega) (by omega)) (by omega)) ?_
                  refine pl_take (.int .i64 (max (lk9 : Int) (-lk9 : Int) : Int)) rfl (by kernel_rfl) (by kernel_rfl) (by kernel_rfl) (ev_int (show _ = Result.ok (Next.value (Value.int .i64 (if (lk9 : Int) < (-lk9 : Int) then (-lk9 : Int) else (lk9 : Int)))) _ from by kernel_rfl) (by split <;> omega)) ?_
                  by_cases hc286 : (max (-((pk34 : Nat) : Int) + ((q : Nat) : Int) : Int) (-(-((pk34 : Nat) : Int) + ((q : Nat) : Int)) : Int) : Int) ≥ (max (lk9 : Int) (-lk9 : Int) : Int)
                  ·
                    refine pl_take (.bool true) rfl (by kernel_rfl) (by kernel_rfl) (by kernel_rfl) (ev_dec (show _ = Result.ok (Next.value (Value.bool (decide ((max (-((pk34 : Nat) : Int) + ((q : Nat) : Int) : Int) (-(-((pk34 : Nat) : Int) + ((q : Nat) : Int)) : Int) : Int) ≥ (max (lk9 : Int) (-lk9 : Int) : Int))))) _ from by kernel_rfl) (hc286)) ?_
                    refine pT (.bool true) ?_
                    refine pT (.bool true) ?_
                    refine pT (.int .i64 (-((pk34 : Nat) : Int) + ((q : Nat) : Int) : Int)) ?_
                    refine pT (.int .i64 lk9) ?_
                    by_cases hc287 : (-((pk34 : Nat) : Int) + ((q : Nat) : Int) : Int) ≤ (lk9 : Int)
                    ·
                      refine pl_take (.bool true) rfl (by kernel_rfl) (by kernel_rfl) (by kernel_rfl) (ev_dec (show _ = Result.ok (Next.value (Value.bool (decide ((-((pk34 : Nat) : Int) + ((q : Nat) : Int) : Int) ≤ (lk9 : Int))))) _ from by kernel_rfl) (hc287)) ?_
                      refine pT (.bool true) ?_
                      refine pl_nil ?_; refine qw_then ?_
                      refine cw_clean [15, 16, 18, 19, 20, 21, 24, 25, 26, 28, 29, 198] (ws' := [(15, .bool true), (16, .pointer (some ⟨O18, 0, none⟩)), (18, .int .i64 (((pk34 : Nat) : Int) : Int)), (19, .int .i64 (s.2 - s.1 : Int)), (20, .pointer (some ⟨O41, 0, none⟩)), (21, .pointer (some ⟨O84, 0, none⟩)), (24, .pointer (some ⟨O203, 0, none⟩)), (25, .int .i64 lk9), (26, .bool true), (28, .int .i64 (sp.1 + ((j : Nat) : Int) : Int)), (29, .int .i64 (-((pk34 : Nat) : Int) + ((q : Nat) : Int) : Int)), (198, .bool true)]) (by kernel_rfl) (fun L => ?_)
                      refine cw_t (by kernel_rfl) ?_
                      refine cw_exit ?_
                      refine qw_then_exit ?_
                      refine qw_block_out ?_
                      refine qw_then ?_; refine cw_plain ?_
                      refine pT (.int .i64 (-((pk34 : Nat) : Int) + ((q : Nat) : Int) : Int)) ?_
                      refine pl_take (.int .i64 (-((pk34 : Nat) : Int) + ((q + 1 : Nat) : Int) : Int)) rfl (by kernel_rfl) (by kernel_rfl) (by kernel_rfl) (ev_int (ev_wrap (a := -((pk34 : Nat) : Int) + ((q : Nat) : Int) + 1) (by kernel_rfl) (by omega) (by omega)) (by omega)) ?_
                      refine pT (.int .i64 (-((pk34 : Nat) : Int) + ((q + 1 : Nat) : Int) : Int)) ?_
                      refine pl_nil ?_
                      refine qw_round [15, 16, 18, 19, 20, 21, 24, 25, 26, 28, 29] (ws' := [(15, .bool true), (16, .pointer (some ⟨O18, 0, none⟩)), (18, .int .i64 (((pk34 : Nat) : Int) : Int)), (19, .int .i64 (s.2 - s.1 : Int)), (20, .pointer (some ⟨O41, 0, none⟩)), (21, .pointer (some ⟨O84, 0, none⟩)), (24, .pointer (some ⟨O203, 0, none⟩)), (25, .int .i64 lk9), (26, .bool true), (28, .int .i64 (sp.1 + ((j : Nat) : Int) : Int)), (29, .int .i64 (-((pk34 : Nat) : Int) + ((q + 1 : Nat) : Int) : Int))]) (by kernel_rfl) _ ?_ ⟨(q + 1), rfl, rfl, hs281, hE, hX280, by omega⟩
                      omega
                    ·
                      refine pl_take (.bool false) rfl (by kernel_rfl) (by kernel_rfl) (by kernel_rfl) (ev_ndec (show _ = Result.ok (Next.value (Value.bool (decide ((-((pk34 : Nat) : Int) + ((q : Nat) : Int) : Int) ≤ (lk9 : Int))))) _ from by kernel_rfl) (hc287)) ?_
                      refine pT (.bool false) ?_
                      refine pl_nil ?_; refine qw_then ?_
                      refine cw_clean [15, 16, 18, 19, 20, 21, 24, 25, 26, 28, 29, 198] (ws' := [(15, .bool true), (16, .pointer (some ⟨O18, 0, none⟩)), (18, .int .i64 (((pk34 : Nat) : Int) : Int)), (19, .int .i64 (s.2 - s.1 : Int)), (20, .pointer (some ⟨O41, 0, none⟩)), (21, .pointer (some ⟨O84, 0, none⟩)), (24, .pointer (some ⟨O203, 0, none⟩)), (25, .int .i64 lk9), (26, .bool true), (28, .int .i64 (sp.1 + ((j : Nat) : Int) : Int)), (29, .int .i64 (-((pk34 : Nat) : Int) + ((q : Nat) : Int) : Int)), (198, .bool false)]) (by kernel_rfl) (fun L => ?_)
                      refine cw_f (by kernel_rfl) ?_
                      refine cw_skip ?_
                      refine qw_then ?_; refine cw_seq ?_; refine cw_seq ?_; refine cw_plain ?_
                      refine pT (.bool true) ?_
                      refine pT (.bool true) ?_
                      refine pT (.int .i64 (sp.1 + ((j : Nat) : Int) : Int)) ?_
                      refine pT (.pointer (some ⟨O203, 0, none⟩)) ?_
                      refine pl_take (.int .i64 b1) rfl (by kernel_rfl) (by kernel_rfl) (by kernel_rfl) (ex_load rfl (by kernel_rfl) (ld3 ((BoxAt.ext (hY284.trans hX280) bO203_0).1))) ?_
                      by_cases hc288 : (sp.1 + ((j : Nat) : Int) : Int) = (b1 : Int)
                      ·
                        refine pl_take (.bool true) rfl (by kernel_rfl) (by kernel_rfl) (by kernel_rfl) (ev_eq (show _ = Result.ok (Next.value (Value.bool ((sp.1 + ((j : Nat) : Int) : Int) == (b1 : Int)))) _ from by kernel_rfl) (hc288)) ?_
                        refine pT (.bool true) ?_
                        refine pT (.bool true) ?_
                        refine pT (.int .i64 (-((pk34 : Nat) : Int) + ((q : Nat) : Int) : Int)) ?_
                        refine pT (.int .i64 (-((pk34 : Nat) : Int) + ((q : Nat) : Int) : Int)) ?_
                        refine pl_take (.int .i64 (-(-((pk34 : Nat) : Int) + ((q : Nat) : Int)) : Int)) rfl (by kernel_rfl) (by kernel_rfl) (by kernel_rfl) (ev_int (ev_wrap (a := 0 - (-((pk34 : Nat) : Int) + ((q : Nat) : Int))) (by kernel_rfl) (by omega) (by omega)) (by omega)) ?_
                        refine pl_take (.int .i64 (max (-((pk34 : Nat) : Int) + ((q : Nat) : Int) : Int) (-(-((pk34 : Nat) : Int) + ((q : Nat) : Int)) : Int) : Int)) rfl (by kernel_rfl) (by kernel_rfl) (by kernel_rfl) (ev_int (show _ = Result.ok (Next.value (Value.int .i64 (if (-((pk34 : Nat) : Int) + ((q : Nat) : Int) : Int) < (-(-((pk34 : Nat) : Int) + ((q : Nat) : Int)) : Int) then (-(-((pk34 : Nat) : Int) + ((q : Nat) : Int)) : Int) else (-((pk34 : Nat) : Int) + ((q : Nat) : Int) : Int)))) _ from by kernel_rfl) (by split <;> omega)) ?_
                        refine pT (.int .i64 lk9) ?_
                        refine pT (.int .i64 lk9) ?_
                        refine pl_take (.int .i64 (-lk9 : Int)) rfl (by kernel_rfl) (by kernel_rfl) (by kernel_rfl) (ev_int (ev_wrap (a := 0 - lk9) (by kernel_rfl) (by omega) (by omega)) (by omega)) ?_
                        refine pl_take (.int .i64 (max (lk9 : Int) (-lk9 : Int) : Int)) rfl (by kernel_rfl) (by kernel_rfl) (by kernel_rfl) (ev_int (show _ = Result.ok (Next.value (Value.int .i64 (if (lk9 : Int) < (-lk9 : Int) then (-lk9 : Int) else (lk9 : Int)))) _ from by kernel_rfl) (by split <;> omega)) ?_
                        by_cases hc289 : (max (-((pk34 : Nat) : Int) + ((q : Nat) : Int) : Int) (-(-((pk34 : Nat) : Int) + ((q : Nat) : Int)) : Int) : Int) > (max (lk9 : Int) (-lk9 : Int) : Int)
                        ·
                          refine pl_take (.bool true) rfl (by kernel_rfl) (by kernel_rfl) (by kernel_rfl) (ev_dec (show _ = Result.ok (Next.value (Value.bool (decide ((max (-((pk34 : Nat) : Int) + ((q : Nat) : Int) : Int) (-(-((pk34 : Nat) : Int) + ((q : Nat) : Int)) : Int) : Int) > (max (lk9 : Int) (-lk9 : Int) : Int))))) _ from by kernel_rfl) (hc289)) ?_
                          refine pT (.bool true) ?_
                          refine pl_nil ?_; refine qw_then ?_
                          refine cw_clean [15, 16, 18, 19, 20, 21, 24, 25, 26, 28, 29, 216] (ws' := [(15, .bool true), (16, .pointer (some ⟨O18, 0, none⟩)), (18, .int .i64 (((pk34 : Nat) : Int) : Int)), (19, .int .i64 (s.2 - s.1 : Int)), (20, .pointer (some ⟨O41, 0, none⟩)), (21, .pointer (some ⟨O84, 0, none⟩)), (24, .pointer (some ⟨O203, 0, none⟩)), (25, .int .i64 lk9), (26, .bool true), (28, .int .i64 (sp.1 + ((j : Nat) : Int) : Int)), (29, .int .i64 (-((pk34 : Nat) : Int) + ((q : Nat) : Int) : Int)), (216, .bool true)]) (by kernel_rfl) (fun L => ?_)
                          refine cw_t (by kernel_rfl) ?_
                          refine cw_exit ?_
                          refine qw_then_exit ?_
                          refine qw_block_out ?_
                          refine qw_then ?_; refine cw_plain ?_
                          refine pT (.int .i64 (-((pk34 : Nat) : Int) + ((q : Nat) : Int) : Int)) ?_
                          refine pl_take (.int .i64 (-((pk34 : Nat) : Int) + ((q + 1 : Nat) : Int) : Int)) rfl (by kernel_rfl) (by kernel_rfl) (by kernel_rfl) (ev_int (ev_wrap (a := -((pk34 : Nat) : Int) + ((q : Nat) : Int) + 1) (by kernel_rfl) (by omega) (by omega)) (by omega)) ?_
                          refine pT (.int .i64 (-((pk34 : Nat) : Int) + ((q + 1 : Nat) : Int) : Int)) ?_
                          refine pl_nil ?_
                          refine qw_round [15, 16, 18, 19, 20, 21, 24, 25, 26, 28, 29] (ws' := [(15, .bool true), (16, .pointer (some ⟨O18, 0, none⟩)), (18, .int .i64 (((pk34 : Nat) : Int) : Int)), (19, .int .i64 (s.2 - s.1 : Int)), (20, .pointer (some ⟨O41, 0, none⟩)), (21, .pointer (some ⟨O84, 0, none⟩)), (24, .pointer (some ⟨O203, 0, none⟩)), (25, .int .i64 lk9), (26, .bool true), (28, .int .i64 (sp.1 + ((j : Nat) : Int) : Int)), (29, .int .i64 (-((pk34 : Nat) : Int) + ((q + 1 : Nat) : Int) : Int))]) (by kernel_rfl) _ ?_ ⟨(q + 1), rfl, rfl, hs281, hE, hX280, by omega⟩
                          omega
                        ·
                          refine pl_take (.bool false) rfl (by kernel_rfl) (by kernel_rfl) (by kernel_rfl) (ev_ndec (show _ = Result.ok (Next.value (Value.bool (decide ((max (-((pk34 : Nat) : Int) + ((q : Nat) : Int) : Int) (-(-((pk34 : Nat) : Int) + ((q : Nat) : Int)) : Int) : Int) > (max (lk9 : Int) (-lk9 : Int) : Int))))) _ from by kernel_rfl) (hc289)) ?_
                          refine pT (.bool false) ?_
                          refine pl_nil ?_; refine qw_then ?_
                          refine cw_clean [15, 16, 18, 19, 20, 21, 24, 25, 26, 28, 29, 216] (ws' := [(15, .bool true), (16, .pointer (some ⟨O18, 0, none⟩)), (18, .int .i64 (((pk34 : Nat) : Int) : Int)), (19, .int .i64 (s.2 - s.1 : Int)), (20, .pointer (some ⟨O41, 0, none⟩)), (21, .pointer (some ⟨O84, 0, none⟩)), (24, .pointer (some ⟨O203, 0, none⟩)), (25, .int .i64 lk9), (26, .bool true), (28, .int .i64 (sp.1 + ((j : Nat) : Int) : Int)), (29, .int .i64 (-((pk34 : Nat) : Int) + ((q : Nat) : Int) : Int)), (216, .bool false)]) (by kernel_rfl) (fun L => ?_)
                          refine cw_f (by kernel_rfl) ?_
                          refine cw_skip ?_
                          refine qw_then ?_; refine cw_seq ?_; refine cw_plain ?_
                          have hY290 := hX97.trans hY284
                          have hY291 := hX24.trans hY290
                          refine pl_take (.agg #[.int .i64 o.p, .int .i64 o.f, .int .i64 o.lo, .int .i64 o.hi, .int .i64 o.nd, .int .i64 o.tn, .int .i64 o.sl]) rfl (by kernel_rfl) (by kernel_rfl) (by kernel_rfl) (ex_load rfl (by kernel_rfl) (ld24 ((BoxAt.ext (hY291.trans hX280) bO18_0).1) ((BoxAt.ext (hY291.trans hX280) bO18_1).1) ((BoxAt.ext (hY291.trans hX280) bO18_2).1) ((BoxAt.ext (hY291.trans hX280) bO18_3).1) ((BoxAt.ext (hY291.trans hX280) bO18_4).1) ((BoxAt.ext (hY291.trans hX280) bO18_5).1) ((BoxAt.ext (hY291.trans hX280) bO18_6).1))) ?_
                          refine pT (.int .i64 (sp.1 + ((j : Nat) : Int) : Int)) ?_
                          refine pT (.int .i64 (sp.1 + ((j : Nat) : Int) : Int)) ?_
                          refine pT (.int .i64 (s.2 - s.1 : Int)) ?_
                          refine pl_take (.int .i64 ((sp.1 + ((j : Nat) : Int)) + (s.2 - s.1) : Int)) rfl (by kernel_rfl) (by kernel_rfl) (by kernel_rfl) (ev_wrap (by kernel_rfl) (by omega) (by omega)) ?_
                          refine pT (.agg #[.int .i64 (sp.1 + ((j : Nat) : Int) : Int), .int .i64 ((sp.1 + ((j : Nat) : Int)) + (s.2 - s.1) : Int)]) ?_
                          refine pT (.int .i64 (-((pk34 : Nat) : Int) + ((q : Nat) : Int) : Int)) ?_
                          refine pl_take (.agg #[.slice (some ⟨B9, 0, none⟩) 24 k9]) rfl (by kernel_rfl) (by kernel_rfl) (by kernel_rfl) (ex_load rfl (by kernel_rfl) (ld31 ((BoxAt.ext (hY284.trans hX280) zb).1))) ?_
                          refine pS (sn_call (f := 24) (args := #[.agg #[.int .i64 o.p, .int .i64 o.f, .int .i64 o.lo, .int .i64 o.hi, .int .i64 o.nd, .int .i64 o.tn, .int .i64 o.sl], .agg #[.int .i64 (sp.1 + ((j : Nat) : Int) : Int), .int .i64 ((sp.1 + ((j : Nat) : Int)) + (s.2 - s.1) : Int)], .int .i64 (-((pk34 : Nat) : Int) + ((q : Nat) : Int) : Int), .agg #[.slice (some ⟨B9, 0, none⟩) 24 k9]]) (by kernel_rfl) ((Shows_r (s := (sp.1 + ((j : Nat) : Int), (sp.1 + ((j : Nat) : Int)) + (s.2 - s.1))) (r := false) _ _ (RowsAt.va (rb.ext (hY284.trans hX280)) (hvl9)).aa (Ext.refl _) (by first | exact hno _ _ (by omega) (by omega) (by omega) (by omega) | (rw [show sp.1 + ((j : Nat) : Int) = b1 by omega]; exact hno2 _ (by omega) (by omega) (by omega)))).mono ?_))
                          rintro e w292 ⟨rfl, hb⟩
                          replace hE := hE.trans hb; replace hX280 := hX280.trans hb; have hs293 := hb.size; clear hb
                          refine ⟨_, rfl, ?_⟩
                          refine pl_nil ?_; refine qw_then ?_
                          refine cw_clean [15, 16, 18, 19, 20, 21, 24, 25, 26, 28, 29, 225] (ws' := [(15, .bool true), (16, .pointer (some ⟨O18, 0, none⟩)), (18, .int .i64 (((pk34 : Nat) : Int) : Int)), (19, .int .i64 (s.2 - s.1 : Int)), (20, .pointer (some ⟨O41, 0, none⟩)), (21, .pointer (some ⟨O84, 0, none⟩)), (24, .pointer (some ⟨O203, 0, none⟩)), (25, .int .i64 lk9), (26, .bool true), (28, .int .i64 (sp.1 + ((j : Nat) : Int) : Int)), (29, .int .i64 (-((pk34 : Nat) : Int) + ((q : Nat) : Int) : Int)), (225, .bool false)]) (by kernel_rfl) (fun L => ?_)
                          refine cw_f (by kernel_rfl) ?_
                          refine cw_skip ?_
                          refine qw_block ?_
                          refine qw_then ?_; refine cw_plain ?_
                          refine pT (.int .i64 (-((pk34 : Nat) : Int) + ((q : Nat) : Int) : Int)) ?_
                          refine pl_take (.int .i64 (-((pk34 : Nat) : Int) + ((q + 1 : Nat) : Int) : Int)) rfl (by kernel_rfl) (by kernel_rfl) (by kernel_rfl) (ev_int (ev_wrap (a := -((pk34 : Nat) : Int) + ((q : Nat) : Int) + 1) (by kernel_rfl) (by omega) (by omega)) (by omega)) ?_
                          refine pT (.int .i64 (-((pk34 : Nat) : Int) + ((q + 1 : Nat) : Int) : Int)) ?_
                          refine pl_nil ?_
                          refine qw_round [15, 16, 18, 19, 20, 21, 24, 25, 26, 28, 29] (ws' := [(15, .bool true), (16, .pointer (some ⟨O18, 0, none⟩)), (18, .int .i64 (((pk34 : Nat) : Int) : Int)), (19, .int .i64 (s.2 - s.1 : Int)), (20, .pointer (some ⟨O41, 0, none⟩)), (21, .pointer (some ⟨O84, 0, none⟩)), (24, .pointer (some ⟨O203, 0, none⟩)), (25, .int .i64 lk9), (26, .bool true), (28, .int .i64 (sp.1 + ((j : Nat) : Int) : Int)), (29, .int .i64 (-((pk34 : Nat) : Int) + ((q + 1 : Nat) : Int) : Int))]) (by kernel_rfl) _ ?_ ⟨(q + 1), rfl, rfl, (T hs281 hs293), hE, hX280, by omega⟩
                          omega
                      ·
                        refine pl_take (.bool false) rfl (by kernel_rfl) (by kernel_rfl) (by kernel_rfl) (ev_neq (show _ = Result.ok (Next.value (Value.bool ((sp.1 + ((j : Nat) : Int) : Int) == (b1 : Int)))) _ from by kernel_rfl) (hc288)) ?_
                        refine pT (.bool false) ?_
                        refine pT (.bool false) ?_
                        refine pl_skip rfl (by kernel_rfl) (by kernel_rfl) (by kernel_rfl) ?_
                        refine pl_skip rfl (by kernel_rfl) (by kernel_rfl) (by kernel_rfl) ?_
                        refine pl_skip rfl (by kernel_rfl) (by kernel_rfl) (by kernel_rfl) ?_
                        refine pl_skip rfl (by kernel_rfl) (by kernel_rfl) (by kernel_rfl) ?_
                        refine pl_skip rfl (by kernel_rfl) (by kernel_rfl) (by kernel_rfl) ?_
                        refine pl_skip rfl (by kernel_rfl) (by kernel_rfl) (by kernel_rfl) ?_
                        refine pl_skip rfl (by kernel_rfl) (by kernel_rfl) (by kernel_rfl) ?_
                        refine pl_skip rfl (by kernel_rfl) (by kernel_rfl) (by kernel_rfl) ?_
                        refine pl_skip rfl (by kernel_rfl) (by kernel_rfl) (by kernel_rfl) ?_
                        refine pT (.bool false) ?_
                        refine pl_nil ?_; refine qw_then ?_
                        refine cw_clean [15, 16, 18, 19, 20, 21, 24, 25, 26, 28, 29, 216] (ws' := [(15, .bool true), (16, .pointer (some ⟨O18, 0, none⟩)), (18, .int .i64 (((pk34 : Nat) : Int) : Int)), (19, .int .i64 (s.2 - s.1 : Int)), (20, .pointer (some ⟨O41, 0, none⟩)), (21, .pointer (some ⟨O84, 0, none⟩)), (24, .pointer (some ⟨O203, 0, none⟩)), (25, .int .i64 lk9), (26, .bool true), (28, .int .i64 (sp.1 + ((j : Nat) : Int) : Int)), (29, .int .i64 (-((pk34 : Nat) : Int) + ((q : Nat) : Int) : Int)), (216, .bool false)]) (by kernel_rfl) (fun L => ?_)
                        refine cw_f (by kernel_rfl) ?_
                        refine cw_skip ?_
                        refine qw_then ?_; refine cw_seq ?_; refine cw_plain ?_
                        have hY294 := hX97.trans hY284
                        have hY295 := hX24.trans hY294
                        refine pl_take (.agg #[.int .i64 o.p, .int .i64 o.f, .int .i64 o.lo, .int .i64 o.hi, .int .i64 o.nd, .int .i64 o.tn, .int .i64 o.sl]) rfl (by kernel_rfl) (by kernel_rfl) (by kernel_rfl) (ex_load rfl (by kernel_rfl) (ld24 ((BoxAt.ext (hY295.trans hX280) bO18_0).1) ((BoxAt.ext (hY295.trans hX280) bO18_1).1) ((BoxAt.ext (hY295.trans hX280) bO18_2).1) ((BoxAt.ext (hY295.trans hX280) bO18_3).1) ((BoxAt.ext (hY295.trans hX280) bO18_4).1) ((BoxAt.ext (hY295.trans hX280) bO18_5).1) ((BoxAt.ext (hY295.trans hX280) bO18_6).1))) ?_
                        refine pT (.int .i64 (sp.1 + ((j : Nat) : Int) : Int)) ?_
                        refine pT (.int .i64 (sp.1 + ((j : Nat) : Int) : Int)) ?_
                        refine pT (.int .i64 (s.2 - s.1 : Int)) ?_
                        refine pl_take (.int .i64 ((sp.1 + ((j : Nat) : Int)) + (s.2 - s.1) : Int)) rfl (by kernel_rfl) (by kernel_rfl) (by kernel_rfl) (ev_wrap (by kernel_rfl) (by omega) (by omega)) ?_
                        refine pT (.agg #[.int .i64 (sp.1 + ((j : Nat) : Int) : Int), .int .i64 ((sp.1 + ((j : Nat) : Int)) + (s.2 - s.1) : Int)]) ?_
                        refine pT (.int .i64 (-((pk34 : Nat) : Int) + ((q : Nat) : Int) : Int)) ?_
                        refine pl_take (.agg #[.slice (some ⟨B9, 0, none⟩) 24 k9]) rfl (by kernel_rfl) (by kernel_rfl) (by kernel_rfl) (ex_load rfl (by kernel_rfl) (ld31 ((BoxAt.ext (hY284.trans hX280) zb).1))) ?_
                        refine pS (sn_call (f := 24) (args := #[.agg #[.int .i64 o.p, .int .i64 o.f, .int .i64 o.lo, .int .i64 o.hi, .int .i64 o.nd, .int .i64 o.tn, .int .i64 o.sl], .agg #[.int .i64 (sp.1 + ((j : Nat) : Int) : Int), .int .i64 ((sp.1 + ((j : Nat) : Int)) + (s.2 - s.1) : Int)], .int .i64 (-((pk34 : Nat) : Int) + ((q : Nat) : Int) : Int), .agg #[.slice (some ⟨B9, 0, none⟩) 24 k9]]) (by kernel_rfl) ((Shows_r (s := (sp.1 + ((j : Nat) : Int), (sp.1 + ((j : Nat) : Int)) + (s.2 - s.1))) (r := false) _ _ (RowsAt.va (rb.ext (hY284.trans hX280)) (hvl9)).aa (Ext.refl _) (by first | exact hno _ _ (by omega) (by omega) (by omega) (by omega) | (rw [show sp.1 + ((j : Nat) : Int) = b1 by omega]; exact hno2 _ (by omega) (by omega) (by omega)))).mono ?_))
                        rintro e w296 ⟨rfl, hb⟩
                        replace hE := hE.trans hb; replace hX280 := hX280.trans hb; have hs297 := hb.size; clear hb
                        refine ⟨_, rfl, ?_⟩
                        refine pl_nil ?_; refine qw_then ?_
                        refine cw_clean [15, 16, 18, 19, 20, 21, 24, 25, 26, 28, 29, 225] (ws' := [(15, .bool true), (16, .pointer (some ⟨O18, 0, none⟩)), (18, .int .i64 (((pk34 : Nat) : Int) : Int)), (19, .int .i64 (s.2 - s.1 : Int)), (20, .pointer (some ⟨O41, 0, none⟩)), (21, .pointer (some ⟨O84, 0, none⟩)), (24, .pointer (some ⟨O203, 0, none⟩)), (25, .int .i64 lk9), (26, .bool true), (28, .int .i64 (sp.1 + ((j : Nat) : Int) : Int)), (29, .int .i64 (-((pk34 : Nat) : Int) + ((q : Nat) : Int) : Int)), (225, .bool false)]) (by kernel_rfl) (fun L => ?_)
                        refine cw_f (by kernel_rfl) ?_
                        refine cw_skip ?_
                        refine qw_block ?_
                        refine qw_then ?_; refine cw_plain ?_
                        refine pT (.int .i64 (-((pk34 : Nat) : Int) + ((q : Nat) : Int) : Int)) ?_
                        refine pl_take (.int .i64 (-((pk34 : Nat) : Int) + ((q + 1 : Nat) : Int) : Int)) rfl (by kernel_rfl) (by kernel_rfl) (by kernel_rfl) (ev_int (ev_wrap (a := -((pk34 : Nat) : Int) + ((q : Nat) : Int) + 1) (by kernel_rfl) (by omega) (by omega)) (by omega)) ?_
                        refine pT (.int .i64 (-((pk34 : Nat) : Int) + ((q + 1 : Nat) : Int) : Int)) ?_
                        refine pl_nil ?_
                        refine qw_round [15, 16, 18, 19, 20, 21, 24, 25, 26, 28, 29] (ws' := [(15, .bool true), (16, .pointer (some ⟨O18, 0, none⟩)), (18, .int .i64 (((pk34 : Nat) : Int) : Int)), (19, .int .i64 (s.2 - s.1 : Int)), (20, .pointer (some ⟨O41, 0, none⟩)), (21, .pointer (some ⟨O84, 0, none⟩)), (24, .pointer (some ⟨O203, 0, none⟩)), (25, .int .i64 lk9), (26, .bool true), (28, .int .i64 (sp.1 + ((j : Nat) : Int) : Int)), (29, .int .i64 (-((pk34 : Nat) : Int) + ((q + 1 : Nat) : Int) : Int))]) (by kernel_rfl) _ ?_ ⟨(q + 1), rfl, rfl, (T hs281 hs297), hE, hX280, by omega⟩
                        omega
                  ·
                    refine pl_take (.bool false) rfl (by kernel_rfl) (by kernel_rfl) (by kernel_rfl) (ev_ndec (show _ = Result.ok (Next.value (Value.bool (decide ((max (-((pk34 : Nat) : Int) + ((q : Nat) : Int) : Int) (-(-((pk34 : Nat) : Int) + ((q : Nat) : Int)) : Int) : Int) ≥ (max (lk9 : Int) (-lk9 : Int) : Int))))) _ from by kernel_rfl) (hc286)) ?_
                    refine pT (.bool false) ?_
                    refine pT (.bool false) ?_
                    refine pl_skip rfl (by kernel_rfl) (by kernel_rfl) (by kernel_rfl) ?_
                    refine pl_skip rfl (by kernel_rfl) (by kernel_rfl) (by kernel_rfl) ?_
                    refine pl_skip rfl (by kernel_rfl) (by kernel_rfl) (by kernel_rfl) ?_
                    refine pT (.bool false) ?_
                    refine pl_nil ?_; refine qw_then ?_
                    refine cw_clean [15, 16, 18, 19, 20, 21, 24, 25, 26, 28, 29, 198] (ws' := [(15, .bool true), (16, .pointer (some ⟨O18, 0, none⟩)), (18, .int .i64 (((pk34 : Nat) : Int) : Int)), (19, .int .i64 (s.2 - s.1 : Int)), (20, .pointer (some ⟨O41, 0, none⟩)), (21, .pointer (some ⟨O84, 0, none⟩)), (24, .pointer (some ⟨O203, 0, none⟩)), (25, .int .i64 lk9), (26, .bool true), (28, .int .i64 (sp.1 + ((j : Nat) : Int) : Int)), (29, .int .i64 (-((pk34 : Nat) : Int) + ((q : Nat) : Int) : Int)), (198, .bool false)]) (by kernel_rfl) (fun L => ?_)
                    refine cw_f (by kernel_rfl) ?_
                    refine cw_skip ?_
                    refine qw_then ?_; refine cw_seq ?_; refine cw_seq ?_; refine cw_plain ?_
                    refine pT (.bool true) ?_
                    refine pT (.bool true) ?_
                    refine pT (.int .i64 (sp.1 + ((j : Nat) : Int) : Int)) ?_
                    refine pT (.pointer (some ⟨O203, 0, none⟩)) ?_
                    refine pl_take (.int .i64 b1) rfl (by kernel_rfl) (by kernel_rfl) (by kernel_rfl) (ex_load rfl (by kernel_rfl) (ld3 ((BoxAt.ext (hY284.trans hX280) bO203_0).1))) ?_
                    by_cases hc298 : (sp.1 + ((j : Nat) : Int) : Int) = (b1 : Int)
                    ·
                      refine pl_take (.bool true) rfl (by kernel_rfl) (by kernel_rfl) (by kernel_rfl) (ev_eq (show _ = Result.ok (Next.value (Value.bool ((sp.1 + ((j : Nat) : Int) : Int) == (b1 : Int)))) _ from by kernel_rfl) (hc298)) ?_
                      refine pT (.bool true) ?_
                      refine pT (.bool true) ?_
                      refine pT (.int .i64 (-((pk34 : Nat) : Int) + ((q : Nat) : Int) : Int)) ?_
                      refine pT (.int .i64 (-((pk34 : Nat) : Int) + ((q : Nat) : Int) : Int)) ?_
                      refine pl_take (.int .i64 (-(-((pk34 : Nat) : Int) + ((q : Nat) : Int)) : Int)) rfl (by kernel_rfl) (by kernel_rfl) (by kernel_rfl) (ev_int (ev_wrap (a := 0 - (-((pk34 : Nat) : Int) + ((q : Nat) : Int))) (by kernel_rfl) (by omega) (by omega)) (by omega)) ?_
                      refine pl_take (.int .i64 (max (-((pk34 : Nat) : Int) + ((q : Nat) : Int) : Int) (-(-((pk34 : Nat) : Int) + ((q : Nat) : Int)) : Int) : Int)) rfl (by kernel_rfl) (by kernel_rfl) (by kernel_rfl) (ev_int (show _ = Result.ok (Next.value (Value.int .i64 (if (-((pk34 : Nat) : Int) + ((q : Nat) : Int) : Int) < (-(-((pk34 : Nat) : Int) + ((q : Nat) : Int)) : Int) then (-(-((pk34 : Nat) : Int) + ((q : Nat) : Int)) : Int) else (-((pk34 : Nat) : Int) + ((q : Nat) : Int) : Int)))) _ from by kernel_rfl) (by split <;> omega)) ?_
                      refine pT (.int .i64 lk9) ?_
                      refine pT (.int .i64 lk9) ?_
                      refine pl_take (.int .i64 (-lk9 : Int)) rfl (by kernel_rfl) (by kernel_rfl) (by kernel_rfl) (ev_int (ev_wrap (a := 0 - lk9) (by kernel_rfl) (by omega) (by omega)) (by omega)) ?_
                      refine pl_take (.int .i64 (max (lk9 : Int) (-lk9 : Int) : Int)) rfl (by kernel_rfl) (by kernel_rfl) (by kernel_rfl) (ev_int (show _ = Result.ok (Next.value (Value.int .i64 (if (lk9 : Int) < (-lk9 : Int) then (-lk9 : Int) else (lk9 : Int)))) _ from by kernel_rfl) (by split <;> omega)) ?_
                      by_cases hc299 : (max (-((pk34 : Nat) : Int) + ((q : Nat) : Int) : Int) (-(-((pk34 : Nat) : Int) + ((q : Nat) : Int)) : Int) : Int) > (max (lk9 : Int) (-lk9 : Int) : Int)
                      ·
                        refine pl_take (.bool true) rfl (by kernel_rfl) (by kernel_rfl) (by kernel_rfl) (ev_dec (show _ = Result.ok (Next.value (Value.bool (decide ((max (-((pk34 : Nat) : Int) + ((q : Nat) : Int) : Int) (-(-((pk34 : Nat) : Int) + ((q : Nat) : Int)) : Int) : Int) > (max (lk9 : Int) (-lk9 : Int) : Int))))) _ from by kernel_rfl) (hc299)) ?_
                        refine pT (.bool true) ?_
                        refine pl_nil ?_; refine qw_then ?_
                        refine cw_clean [15, 16, 18, 19, 20, 21, 24, 25, 26, 28, 29, 216] (ws' := [(15, .bool true), (16, .pointer (some ⟨O18, 0, none⟩)), (18, .int .i64 (((pk34 : Nat) : Int) : Int)), (19, .int .i64 (s.2 - s.1 : Int)), (20, .pointer (some ⟨O41, 0, none⟩)), (21, .pointer (some ⟨O84, 0, none⟩)), (24, .pointer (some ⟨O203, 0, none⟩)), (25, .int .i64 lk9), (26, .bool true), (28, .int .i64 (sp.1 + ((j : Nat) : Int) : Int)), (29, .int .i64 (-((pk34 : Nat) : Int) + ((q : Nat) : Int) : Int)), (216, .bool true)]) (by kernel_rfl) (fun L => ?_)
                        refine cw_t (by kernel_rfl) ?_
                        refine cw_exit ?_
                        refine qw_then_exit ?_
                        refine qw_block_out ?_
                        refine qw_then ?_; refine cw_plain ?_
                        refine pT (.int .i64 (-((pk34 : Nat) : Int) + ((q : Nat) : Int) : Int)) ?_
                        refine pl_take (.int .i64 (-((pk34 : Nat) : Int) + ((q + 1 : Nat) : Int) : Int)) rfl (by kernel_rfl) (by kernel_rfl) (by kernel_rfl) (ev_int (ev_wrap (a := -((pk34 : Nat) : Int) + ((q : Nat) : Int) + 1) (by kernel_rfl) (by omega) (by omega)) (by omega)) ?_
                        refine pT (.int .i64 (-((pk34 : Nat) : Int) + ((q + 1 : Nat) : Int) : Int)) ?_
                        refine pl_nil ?_
                        refine qw_round [15, 16, 18, 19, 20, 21, 24, 25, 26, 28, 29] (ws' := [(15, .bool true), (16, .pointer (some ⟨O18, 0, none⟩)), (18, .int .i64 (((pk34 : Nat) : Int) : Int)), (19, .int .i64 (s.2 - s.1 : Int)), (20, .pointer (some ⟨O41, 0, none⟩)), (21, .pointer (some ⟨O84, 0, none⟩)), (24, .pointer (some ⟨O203, 0, none⟩)), (25, .int .i64 lk9), (26, .bool true), (28, .int .i64 (sp.1 + ((j : Nat) : Int) : Int)), (29, .int .i64 (-((pk34 : Nat) : Int) + ((q + 1 : Nat) : Int) : Int))]) (by kernel_rfl) _ ?_ ⟨(q + 1), rfl, rfl, hs281, hE, hX280, by omega⟩
                        omega
                      ·
                        refine pl_take (.bool false) rfl (by kernel_rfl) (by kernel_rfl) (by kernel_rfl) (ev_ndec (show _ = Result.ok (Next.value (Value.bool (decide ((max (-((pk34 : Nat) : Int) + ((q : Nat) : Int) : Int) (-(-((pk34 : Nat) : Int) + ((q : Nat) : Int)) : Int) : Int) > (max (lk9 : Int) (-lk9 : Int) : Int))))) _ from by kernel_rfl) (hc299)) ?_
                        refine pT (.bool false) ?_
                        refine pl_nil ?_; refine qw_then ?_
                        refine cw_clean [15, 16, 18, 19, 20, 21, 24, 25, 26, 28, 29, 216] (ws' := [(15, .bool true), (16, .pointer (some ⟨O18, 0, none⟩)), (18, .int .i64 (((pk34 : Nat) : Int) : Int)), (19, .int .i64 (s.2 - s.1 : Int)), (20, .pointer (some ⟨O41, 0, none⟩)), (21, .pointer (some ⟨O84, 0, none⟩)), (24, .pointer (some ⟨O203, 0, none⟩)), (25, .int .i64 lk9), (26, .bool true), (28, .int .i64 (sp.1 + ((j : Nat) : Int) : Int)), (29, .int .i64 (-((pk34 : Nat) : Int) + ((q : Nat) : Int) : Int)), (216, .bool false)]) (by kernel_rfl) (fun L => ?_)
                        refine cw_f (by kernel_rfl) ?_
                        refine cw_skip ?_
                        refine qw_then ?_; refine cw_seq ?_; refine cw_plain ?_
                        have hY300 := hX97.trans hY284
                        have hY301 := hX24.trans hY300
                        refine pl_take (.agg #[.int .i64 o.p, .int .i64 o.f, .int .i64 o.lo, .int .i64 o.hi, .int .i64 o.nd, .int .i64 o.tn, .int .i64 o.sl]) rfl (by kernel_rfl) (by kernel_rfl) (by kernel_rfl) (ex_load rfl (by kernel_rfl) (ld24 ((BoxAt.ext (hY301.trans hX280) bO18_0).1) ((BoxAt.ext (hY301.trans hX280) bO18_1).1) ((BoxAt.ext (hY301.trans hX280) bO18_2).1) ((BoxAt.ext (hY301.trans hX280) bO18_3).1) ((BoxAt.ext (hY301.trans hX280) bO18_4).1) ((BoxAt.ext (hY301.trans hX280) bO18_5).1) ((BoxAt.ext (hY301.trans hX280) bO18_6).1))) ?_
                        refine pT (.int .i64 (sp.1 + ((j : Nat) : Int) : Int)) ?_
                        refine pT (.int .i64 (sp.1 + ((j : Nat) : Int) : Int)) ?_
                        refine pT (.int .i64 (s.2 - s.1 : Int)) ?_
                        refine pl_take (.int .i64 ((sp.1 + ((j : Nat) : Int)) + (s.2 - s.1) : Int)) rfl (by kernel_rfl) (by kernel_rfl) (by kernel_rfl) (ev_wrap (by kernel_rfl) (by omega) (by omega)) ?_
                        refine pT (.agg #[.int .i64 (sp.1 + ((j : Nat) : Int) : Int), .int .i64 ((sp.1 + ((j : Nat) : Int)) + (s.2 - s.1) : Int)]) ?_
                        refine pT (.int .i64 (-((pk34 : Nat) : Int) + ((q : Nat) : Int) : Int)) ?_
                        refine pl_take (.agg #[.slice (some ⟨B9, 0, none⟩) 24 k9]) rfl (by kernel_rfl) (by kernel_rfl) (by kernel_rfl) (ex_load rfl (by kernel_rfl) (ld31 ((BoxAt.ext (hY284.trans hX280) zb).1))) ?_
                        refine pS (sn_call (f := 24) (args := #[.agg #[.int .i64 o.p, .int .i64 o.f, .int .i64 o.lo, .int .i64 o.hi, .int .i64 o.nd, .int .i64 o.tn, .int .i64 o.sl], .agg #[.int .i64 (sp.1 + ((j : Nat) : Int) : Int), .int .i64 ((sp.1 + ((j : Nat) : Int)) + (s.2 - s.1) : Int)], .int .i64 (-((pk34 : Nat) : Int) + ((q : Nat) : Int) : Int), .agg #[.slice (some ⟨B9, 0, none⟩) 24 k9]]) (by kernel_rfl) ((Shows_r (s := (sp.1 + ((j : Nat) : Int), (sp.1 + ((j : Nat) : Int)) + (s.2 - s.1))) (r := false) _ _ (RowsAt.va (rb.ext (hY284.trans hX280)) (hvl9)).aa (Ext.refl _) (by first | exact hno _ _ (by omega) (by omega) (by omega) (by omega) | (rw [show sp.1 + ((j : Nat) : Int) = b1 by omega]; exact hno2 _ (by omega) (by omega) (by omega)))).mono ?_))
                        rintro e w302 ⟨rfl, hb⟩
                        replace hE := hE.trans hb; replace hX280 := hX280.trans hb; have hs303 := hb.size; clear hb
                        refine ⟨_, rfl, ?_⟩
                        refine pl_nil ?_; refine qw_then ?_
                        refine cw_clean [15, 16, 18, 19, 20, 21, 24, 25, 26, 28, 29, 225] (ws' := [(15, .bool true), (16, .pointer (some ⟨O18, 0, none⟩)), (18, .int .i64 (((pk34 : Nat) : Int) : Int)), (19, .int .i64 (s.2 - s.1 : Int)), (20, .pointer (some ⟨O41, 0, none⟩)), (21, .pointer (some ⟨O84, 0, none⟩)), (24, .pointer (some ⟨O203, 0, none⟩)), (25, .int .i64 lk9), (26, .bool true), (28, .int .i64 (sp.1 + ((j : Nat) : Int) : Int)), (29, .int .i64 (-((pk34 : Nat) : Int) + ((q : Nat) : Int) : Int)), (225, .bool false)]) (by kernel_rfl) (fun L => ?_)
                        refine cw_f (by kernel_rfl) ?_
                        refine cw_skip ?_
                        refine qw_block ?_
                        refine qw_then ?_; refine cw_plain ?_
                        refine pT (.int .i64 (-((pk34 : Nat) : Int) + ((q : Nat) : Int) : Int)) ?_
                        refine pl_take (.int .i64 (-((pk34 : Nat) : Int) + ((q + 1 : Nat) : Int) : Int)) rfl (by kernel_rfl) (by kernel_rfl) (by kernel_rfl) (ev_int (ev_wrap (a := -((pk34 : Nat) : Int) + ((q : Nat) : Int) + 1) (by kernel_rfl) (by omega) (by omega)) (by omega)) ?_
                        refine pT (.int .i64 (-((pk34 : Nat) : Int) + ((q + 1 : Nat) : Int) : Int)) ?_
                        refine pl_nil ?_
                        refine qw_round [15, 16, 18, 19, 20, 21, 24, 25, 26, 28, 29] (ws' := [(15, .bool true), (16, .pointer (some ⟨O18, 0, none⟩)), (18, .int .i64 (((pk34 : Nat) : Int) : Int)), (19, .int .i64 (s.2 - s.1 : Int)), (20, .pointer (some ⟨O41, 0, none⟩)), (21, .pointer (some ⟨O84, 0, none⟩)), (24, .pointer (some ⟨O203, 0, none⟩)), (25, .int .i64 lk9), (26, .bool true), (28, .int .i64 (sp.1 + ((j : Nat) : Int) : Int)), (29, .int .i64 (-((pk34 : Nat) : Int) + ((q + 1 : Nat) : Int) : Int))]) (by kernel_rfl) _ ?_ ⟨(q + 1), rfl, rfl, (T hs281 hs303), hE, hX280, by omega⟩
                        omega
                    ·
                      refine pl_take (.bool false) rfl (by kernel_rfl) (by kernel_rfl) (by kernel_rfl) (ev_neq (show _ = Result.ok (Next.value (Value.bool ((sp.1 + ((j : Nat) : Int) : Int) == (b1 : Int)))) _ from by kernel_rfl) (hc298)) ?_
                      refine pT (.bool false) ?_
                      refine pT (.bool false) ?_
                      refine pl_skip rfl (by kernel_rfl) (by kernel_rfl) (by kernel_rfl) ?_
                      refine pl_skip rfl (by kernel_rfl) (by kernel_rfl) (by kernel_rfl) ?_
                      refine pl_skip rfl (by kernel_rfl) (by kernel_rfl) (by kernel_rfl) ?_
                      refine pl_skip rfl (by kernel_rfl) (by kernel_rfl) (by kernel_rfl) ?_
                      refine pl_skip rfl (by kernel_rfl) (by kernel_rfl) (by kernel_rfl) ?_
                      refine pl_skip rfl (by kernel_rfl) (by kernel_rfl) (by kernel_rfl) ?_
                      refine pl_skip rfl (by kernel_rfl) (by kernel_rfl) (by kernel_rfl) ?_
                      refine pl_skip rfl (by kernel_rfl) (by kernel_rfl) (by kernel_rfl) ?_
                      refine pl_skip rfl (by kernel_rfl) (by kernel_rfl) (by kernel_rfl) ?_
                      refine pT (.bool false) ?_
                      refine pl_nil ?_; refine qw_then ?_
                      refine cw_clean [15, 16, 18, 19, 20, 21, 24, 25, 26, 28, 29, 216] (ws' := [(15, .bool true), (16, .pointer (some ⟨O18, 0, none⟩)), (18, .int .i64 (((pk34 : Nat) : Int) : Int)), (19, .int .i64 (s.2 - s.1 : Int)), (20, .pointer (some ⟨O41, 0, none⟩)), (21, .pointer (some ⟨O84, 0, none⟩)), (24, .pointer (some ⟨O203, 0, none⟩)), (25, .int .i64 lk9), (26, .bool true), (28, .int .i64 (sp.1 + ((j : Nat) : Int) : Int)), (29, .int .i64 (-((pk34 : Nat) : Int) + ((q : Nat) : Int) : Int)), (216, .bool false)]) (by kernel_rfl) (fun L => ?_)
                      refine cw_f (by kernel_rfl) ?_
                      refine cw_skip ?_
                      refine qw_then ?_; refine cw_seq ?_; refine cw_plain ?_
                      have hY304 := hX97.trans hY284
                      have hY305 := hX24.trans hY304
                      refine pl_take (.agg #[.int .i64 o.p, .int .i64 o.f, .int .i64 o.lo, .int .i64 o.hi, .int .i64 o.nd, .int .i64 o.tn, .int .i64 o.sl]) rfl (by kernel_rfl) (by kernel_rfl) (by kernel_rfl) (ex_load rfl (by kernel_rfl) (ld24 ((BoxAt.ext (hY305.trans hX280) bO18_0).1) ((BoxAt.ext (hY305.trans hX280) bO18_1).1) ((BoxAt.ext (hY305.trans hX280) bO18_2).1) ((BoxAt.ext (hY305.trans hX280) bO18_3).1) ((BoxAt.ext (hY305.trans hX280) bO18_4).1) ((BoxAt.ext (hY305.trans hX280) bO18_5).1) ((BoxAt.ext (hY305.trans hX280) bO18_6).1))) ?_
                      refine pT (.int .i64 (sp.1 + ((j : Nat) : Int) : Int)) ?_
                      refine pT (.int .i64 (sp.1 + ((j : Nat) : Int) : Int)) ?_
                      refine pT (.int .i64 (s.2 - s.1 : Int)) ?_
                      refine pl_take (.int .i64 ((sp.1 + ((j : Nat) : Int)) + (s.2 - s.1) : Int)) rfl (by kernel_rfl) (by kernel_rfl) (by kernel_rfl) (ev_wrap (by kernel_rfl) (by omega) (by omega)) ?_
                      refine pT (.agg #[.int .i64 (sp.1 + ((j : Nat) : Int) : Int), .int .i64 ((sp.1 + ((j : Nat) : Int)) + (s.2 - s.1) : Int)]) ?_
                      refine pT (.int .i64 (-((pk34 : Nat) : Int) + ((q : Nat) : Int) : Int)) ?_
                      refine pl_take (.agg #[.slice (some ⟨B9, 0, none⟩) 24 k9]) rfl (by kernel_rfl) (by kernel_rfl) (by kernel_rfl) (ex_load rfl (by kernel_rfl) (ld31 ((BoxAt.ext (hY284.trans hX280) zb).1))) ?_
                      refine pS (sn_call (f := 24) (args := #[.agg #[.int .i64 o.p, .int .i64 o.f, .int .i64 o.lo, .int .i64 o.hi, .int .i64 o.nd, .int .i64 o.tn, .int .i64 o.sl], .agg #[.int .i64 (sp.1 + ((j : Nat) : Int) : Int), .int .i64 ((sp.1 + ((j : Nat) : Int)) + (s.2 - s.1) : Int)], .int .i64 (-((pk34 : Nat) : Int) + ((q : Nat) : Int) : Int), .agg #[.slice (some ⟨B9, 0, none⟩) 24 k9]]) (by kernel_rfl) ((Shows_r (s := (sp.1 + ((j : Nat) : Int), (sp.1 + ((j : Nat) : Int)) + (s.2 - s.1))) (r := false) _ _ (RowsAt.va (rb.ext (hY284.trans hX280)) (hvl9)).aa (Ext.refl _) (by first | exact hno _ _ (by omega) (by omega) (by omega) (by omega) | (rw [show sp.1 + ((j : Nat) : Int) = b1 by omega]; exact hno2 _ (by omega) (by omega) (by omega)))).mono ?_))
                      rintro e w306 ⟨rfl, hb⟩
                      replace hE := hE.trans hb; replace hX280 := hX280.trans hb; have hs307 := hb.size; clear hb
                      refine ⟨_, rfl, ?_⟩
                      refine pl_nil ?_; refine qw_then ?_
                      refine cw_clean [15, 16, 18, 19, 20, 21, 24, 25, 26, 28, 29, 225] (ws' := [(15, .bool true), (16, .pointer (some ⟨O18, 0, none⟩)), (18, .int .i64 (((pk34 : Nat) : Int) : Int)), (19, .int .i64 (s.2 - s.1 : Int)), (20, .pointer (some ⟨O41, 0, none⟩)), (21, .pointer (some ⟨O84, 0, none⟩)), (24, .pointer (some ⟨O203, 0, none⟩)), (25, .int .i64 lk9), (26, .bool true), (28, .int .i64 (sp.1 + ((j : Nat) : Int) : Int)), (29, .int .i64 (-((pk34 : Nat) : Int) + ((q : Nat) : Int) : Int)), (225, .bool false)]) (by kernel_rfl) (fun L => ?_)
                      refine cw_f (by kernel_rfl) ?_
                      refine cw_skip ?_
                      refine qw_block ?_
                      refine qw_then ?_; refine cw_plain ?_
                      refine pT (.int .i64 (-((pk34 : Nat) : Int) + ((q : Nat) : Int) : Int)) ?_
                      refine pl_take (.int .i64 (-((pk34 : Nat) : Int) + ((q + 1 : Nat) : Int) : Int)) rfl (by kernel_rfl) (by kernel_rfl) (by kernel_rfl) (ev_int (ev_wrap (a := -((pk34 : Nat) : Int) + ((q : Nat) : Int) + 1) (by kernel_rfl) (by omega) (by omega)) (by omega)) ?_
                      refine pT (.int .i64 (-((pk34 : Nat) : Int) + ((q + 1 : Nat) : Int) : Int)) ?_
                      refine pl_nil ?_
                      refine qw_round [15, 16, 18, 19, 20, 21, 24, 25, 26, 28, 29] (ws' := [(15, .bool true), (16, .pointer (some ⟨O18, 0, none⟩)), (18, .int .i64 (((pk34 : Nat) : Int) : Int)), (19, .int .i64 (s.2 - s.1 : Int)), (20, .pointer (some ⟨O41, 0, none⟩)), (21, .pointer (some ⟨O84, 0, none⟩)), (24, .pointer (some ⟨O203, 0, none⟩)), (25, .int .i64 lk9), (26, .bool true), (28, .int .i64 (sp.1 + ((j : Nat) : Int) : Int)), (29, .int .i64 (-((pk34 : Nat) : Int) + ((q + 1 : Nat) : Int) : Int))]) (by kernel_rfl) _ ?_ ⟨(q + 1), rfl, rfl, (T hs281 hs307), hE, hX280, by omega⟩
                      omega
                ·
                  refine pl_take (.bool false) rfl (by kernel_rfl) (by kernel_rfl) (by kernel_rfl) (ev_neq (show _ = Result.ok (Next.value (Value.bool ((sp.1 + ((j : Nat) : Int) : Int) == (b1 : Int)))) _ from by kernel_rfl) (hc285)) ?_
                  refine pT (.bool false) ?_
                  refine pT (.bool false) ?_
                  refine pl_skip rfl (by kernel_rfl) (by kernel_rfl) (by kernel_rfl) ?_
                  refine pl_skip rfl (by kernel_rfl) (by kernel_rfl) (by kernel_rfl) ?_
                  refine pl_skip rfl (by kernel_rfl) (by kernel_rfl) (by kernel_rfl) ?_
                  refine pl_skip rfl (by kernel_rfl) (by kernel_rfl) (by kernel_rfl) ?_
                  refine pl_skip rfl (by kernel_rfl) (by kernel_rfl) (by kernel_rfl) ?_
                  refine pl_skip rfl (by kernel_rfl) (by kernel_rfl) (by kernel_rfl) ?_
                  refine pl_skip rfl (by kernel_rfl) (by kernel_rfl) (by kernel_rfl) ?_
                  refine pl_skip rfl (by kernel_rfl) (by kernel_rfl) (by kernel_rfl) ?_
                  refine pl_skip rfl (by kernel_rfl) (by kernel_rfl) (by kernel_rfl) ?_
                  refine pT (.bool false) ?_
                  refine pT (.bool false) ?_
                  refine pl_skip rfl (by kernel_rfl) (by kernel_rfl) (by kernel_rfl) ?_
                  refine pl_skip rfl (by kernel_rfl) (by kernel_rfl) (by kernel_rfl) ?_
                  refine pl_skip rfl (by kernel_rfl) (by kernel_rfl) (by kernel_rfl) ?_
                  refine pT (.bool false) ?_
                  refine pl_nil ?_; refine qw_then ?_
                  refine cw_clean [15, 16, 18, 19, 20, 21, 24, 25, 26, 28, 29, 198] (ws' := [(15, .bool true), (16, .pointer (some ⟨O18, 0, none⟩)), (18, .int .i64 (((pk34 : Nat) : Int) : Int)), (19, .int .i64 (s.2 - s.1 : Int)), (20, .pointer (some ⟨O41, 0, none⟩)), (21, .pointer (some ⟨O84, 0, none⟩)), (24, .pointer (some ⟨O203, 0, none⟩)), (25, .int .i64 lk9), (26, .bool true), (28, .int .i64 (sp.1 + ((j : Nat) : Int) : Int)), (29, .int .i64 (-((pk34 : Nat) : Int) + ((q : Nat) : Int) : Int)), (198, .bool false)]) (by kernel_rfl) (fun L => ?_)
                  refine cw_f (by kernel_rfl) ?_
                  refine cw_skip ?_
                  refine qw_then ?_; refine cw_seq ?_; refine cw_seq ?_; refine cw_plain ?_
                  refine pT (.bool true) ?_
                  refine pT (.bool true) ?_
                  refine pT (.int .i64 (sp.1 + ((j : Nat) : Int) : Int)) ?_
                  refine pT (.pointer (some ⟨O203, 0, none⟩)) ?_
                  refine pl_take (.int .i64 b1) rfl (by kernel_rfl) (by kernel_rfl) (by kernel_rfl) (ex_load rfl (by kernel_rfl) (ld3 ((BoxAt.ext (hY284.trans hX280) bO203_0).1))) ?_
                  by_cases hc308 : (sp.1 + ((j : Nat) : Int) : Int) = (b1 : Int)
                  ·
                    refine pl_take (.bool true) rfl (by kernel_rfl) (by kernel_rfl) (by kernel_rfl) (ev_eq (show _ = Result.ok (Next.value (Value.bool ((sp.1 + ((j : Nat) : Int) : Int) == (b1 : Int)))) _ from by kernel_rfl) (hc308)) ?_
                    refine pT (.bool true) ?_
                    refine pT (.bool true) ?_
                    refine pT (.int .i64 (-((pk34 : Nat) : Int) + ((q : Nat) : Int) : Int)) ?_
                    refine pT (.int .i64 (-((pk34 : Nat) : Int) + ((q : Nat) : Int) : Int)) ?_
                    refine pl_take (.int .i64 (-(-((pk34 : Nat) : Int) + ((q : Nat) : Int)) : Int)) rfl (by kernel_rfl) (by kernel_rfl) (by kernel_rfl) (ev_int (ev_wrap (a := 0 - (-((pk34 : Nat) : Int) + ((q : Nat) : Int))) (by kernel_rfl) (by omega) (by omega)) (by omega)) ?_
                    refine pl_take (.int .i64 (max (-((pk34 : Nat) : Int) + ((q : Nat) : Int) : Int) (-(-((pk34 : Nat) : Int) + ((q : Nat) : Int)) : Int) : Int)) rfl (by kernel_rfl) (by kernel_rfl) (by kernel_rfl) (ev_int (show _ = Result.ok (Next.value (Value.int .i64 (if (-((pk34 : Nat) : Int) + ((q : Nat) : Int) : Int) < (-(-((pk34 : Nat) : Int) + ((q : Nat) : Int)) : Int) then (-(-((pk34 : Nat) : Int) + ((q : Nat) : Int)) : Int) else (-((pk34 : Nat) : Int) + ((q : Nat) : Int) : Int)))) _ from by kernel_rfl) (by split <;> omega)) ?_
                    refine pT (.int .i64 lk9) ?_
                    refine pT (.int .i64 lk9) ?_
                    refine pl_take (.int .i64 (-lk9 : Int)) rfl (by kernel_rfl) (by kernel_rfl) (by kernel_rfl) (ev_int (ev_wrap (a := 0 - lk9) (by kernel_rfl) (by omega) (by omega)) (by omega)) ?_
                    refine pl_take (.int .i64 (max (lk9 : Int) (-lk9 : Int) : Int)) rfl (by kernel_rfl) (by kernel_rfl) (by kernel_rfl) (ev_int (show _ = Result.ok (Next.value (Value.int .i64 (if (lk9 : Int) < (-lk9 : Int) then (-lk9 : Int) else (lk9 : Int)))) _ from by kernel_rfl) (by split <;> omega)) ?_
                    by_cases hc309 : (max (-((pk34 : Nat) : Int) + ((q : Nat) : Int) : Int) (-(-((pk34 : Nat) : Int) + ((q : Nat) : Int)) : Int) : Int) > (max (lk9 : Int) (-lk9 : Int) : Int)
                    ·
                      refine pl_take (.bool true) rfl (by kernel_rfl) (by kernel_rfl) (by kernel_rfl) (ev_dec (show _ = Result.ok (Next.value (Value.bool (decide ((max (-((pk34 : Nat) : Int) + ((q : Nat) : Int) : Int) (-(-((pk34 : Nat) : Int) + ((q : Nat) : Int)) : Int) : Int) > (max (lk9 : Int) (-lk9 : Int) : Int))))) _ from by kernel_rfl) (hc309)) ?_
                      refine pT (.bool true) ?_
                      refine pl_nil ?_; refine qw_then ?_
                      refine cw_clean [15, 16, 18, 19, 20, 21, 24, 25, 26, 28, 29, 216] (ws' := [(15, .bool true), (16, .pointer (some ⟨O18, 0, none⟩)), (18, .int .i64 (((pk34 : Nat) : Int) : Int)), (19, .int .i64 (s.2 - s.1 : Int)), (20, .pointer (some ⟨O41, 0, none⟩)), (21, .pointer (some ⟨O84, 0, none⟩)), (24, .pointer (some ⟨O203, 0, none⟩)), (25, .int .i64 lk9), (26, .bool true), (28, .int .i64 (sp.1 + ((j : Nat) : Int) : Int)), (29, .int .i64 (-((pk34 : Nat) : Int) + ((q : Nat) : Int) : Int)), (216, .bool true)]) (by kernel_rfl) (fun L => ?_)
                      refine cw_t (by kernel_rfl) ?_
                      refine cw_exit ?_
                      refine qw_then_exit ?_
                      refine qw_block_out ?_
                      refine qw_then ?_; refine cw_plain ?_
                      refine pT (.int .i64 (-((pk34 : Nat) : Int) + ((q : Nat) : Int) : Int)) ?_
                      refine pl_take (.int .i64 (-((pk34 : Nat) : Int) + ((q + 1 : Nat) : Int) : Int)) rfl (by kernel_rfl) (by kernel_rfl) (by kernel_rfl) (ev_int (ev_wrap (a := -((pk34 : Nat) : Int) + ((q : Nat) : Int) + 1) (by kernel_rfl) (by omega) (by omega)) (by omega)) ?_
                      refine pT (.int .i64 (-((pk34 : Nat) : Int) + ((q + 1 : Nat) : Int) : Int)) ?_
                      refine pl_nil ?_
                      refine qw_round [15, 16, 18, 19, 20, 21, 24, 25, 26, 28, 29] (ws' := [(15, .bool true), (16, .pointer (some ⟨O18, 0, none⟩)), (18, .int .i64 (((pk34 : Nat) : Int) : Int)), (19, .int .i64 (s.2 - s.1 : Int)), (20, .pointer (some ⟨O41, 0, none⟩)), (21, .pointer (some ⟨O84, 0, none⟩)), (24, .pointer (some ⟨O203, 0, none⟩)), (25, .int .i64 lk9), (26, .bool true), (28, .int .i64 (sp.1 + ((j : Nat) : Int) : Int)), (29, .int .i64 (-((pk34 : Nat) : Int) + ((q + 1 : Nat) : Int) : Int))]) (by kernel_rfl) _ ?_ ⟨(q + 1), rfl, rfl, hs281, hE, hX280, by omega⟩
                      omega
                    ·
                      refine pl_take (.bool false) rfl (by kernel_rfl) (by kernel_rfl) (by kernel_rfl) (ev_ndec (show _ = Result.ok (Next.value (Value.bool (decide ((max (-((pk34 : Nat) : Int) + ((q : Nat) : Int) : Int) (-(-((pk34 : Nat) : Int) + ((q : Nat) : Int)) : Int) : Int) > (max (lk9 : Int) (-lk9 : Int) : Int))))) _ from by kernel_rfl) (hc309)) ?_
                      refine pT (.bool false) ?_
                      refine pl_nil ?_; refine qw_then ?_
                      refine cw_clean [15, 16, 18, 19, 20, 21, 24, 25, 26, 28, 29, 216] (ws' := [(15, .bool true), (16, .pointer (some ⟨O18, 0, none⟩)), (18, .int .i64 (((pk34 : Nat) : Int) : Int)), (19, .int .i64 (s.2 - s.1 : Int)), (20, .pointer (some ⟨O41, 0, none⟩)), (21, .pointer (some ⟨O84, 0, none⟩)), (24, .pointer (some ⟨O203, 0, none⟩)), (25, .int .i64 lk9), (26, .bool true), (28, .int .i64 (sp.1 + ((j : Nat) : Int) : Int)), (29, .int .i64 (-((pk34 : Nat) : Int) + ((q : Nat) : Int) : Int)), (216, .bool false)]) (by kernel_rfl) (fun L => ?_)
                      refine cw_f (by kernel_rfl) ?_
                      refine cw_skip ?_
                      refine qw_then ?_; refine cw_seq ?_; refine cw_plain ?_
                      have hY310 := hX97.trans hY284
                      have hY311 := hX24.trans hY310
                      refine pl_take (.agg #[.int .i64 o.p, .int .i64 o.f, .int .i64 o.lo, .int .i64 o.hi, .int .i64 o.nd, .int .i64 o.tn, .int .i64 o.sl]) rfl (by kernel_rfl) (by kernel_rfl) (by kernel_rfl) (ex_load rfl (by kernel_rfl) (ld24 ((BoxAt.ext (hY311.trans hX280) bO18_0).1) ((BoxAt.ext (hY311.trans hX280) bO18_1).1) ((BoxAt.ext (hY311.trans hX280) bO18_2).1) ((BoxAt.ext (hY311.trans hX280) bO18_3).1) ((BoxAt.ext (hY311.trans hX280) bO18_4).1) ((BoxAt.ext (hY311.trans hX280) bO18_5).1) ((BoxAt.ext (hY311.trans hX280) bO18_6).1))) ?_
                      refine pT (.int .i64 (sp.1 + ((j : Nat) : Int) : Int)) ?_
                      refine pT (.int .i64 (sp.1 + ((j : Nat) : Int) : Int)) ?_
                      refine pT (.int .i64 (s.2 - s.1 : Int)) ?_
                      refine pl_take (.int .i64 ((sp.1 + ((j : Nat) : Int)) + (s.2 - s.1) : Int)) rfl (by kernel_rfl) (by kernel_rfl) (by kernel_rfl) (ev_wrap (by kernel_rfl) (by omega) (by omega)) ?_
                      refine pT (.agg #[.int .i64 (sp.1 + ((j : Nat) : Int) : Int), .int .i64 ((sp.1 + ((j : Nat) : Int)) + (s.2 - s.1) : Int)]) ?_
                      refine pT (.int .i64 (-((pk34 : Nat) : Int) + ((q : Nat) : Int) : Int)) ?_
                      refine pl_take (.agg #[.slice (some ⟨B9, 0, none⟩) 24 k9]) rfl (by kernel_rfl) (by kernel_rfl) (by kernel_rfl) (ex_load rfl (by kernel_rfl) (ld31 ((BoxAt.ext (hY284.trans hX280) zb).1))) ?_
                      refine pS (sn_call (f := 24) (args := #[.agg #[.int .i64 o.p, .int .i64 o.f, .int .i64 o.lo, .int .i64 o.hi, .int .i64 o.nd, .int .i64 o.tn, .int .i64 o.sl], .agg #[.int .i64 (sp.1 + ((j : Nat) : Int) : Int), .int .i64 ((sp.1 + ((j : Nat) : Int)) + (s.2 - s.1) : Int)], .int .i64 (-((pk34 : Nat) : Int) + ((q : Nat) : Int) : Int), .agg #[.slice (some ⟨B9, 0, none⟩) 24 k9]]) (by kernel_rfl) ((Shows_r (s := (sp.1 + ((j : Nat) : Int), (sp.1 + ((j : Nat) : Int)) + (s.2 - s.1))) (r := false) _ _ (RowsAt.va (rb.ext (hY284.trans hX280)) (hvl9)).aa (Ext.refl _) (by first | exact hno _ _ (by omega) (by omega) (by omega) (by omega) | (rw [show sp.1 + ((j : Nat) : Int) = b1 by omega]; exact hno2 _ (by omega) (by omega) (by omega)))).mono ?_))
                      rintro e w312 ⟨rfl, hb⟩
                      replace hE := hE.trans hb; replace hX280 := hX280.trans hb; have hs313 := hb.size; clear hb
                      refine ⟨_, rfl, ?_⟩
                      refine pl_nil ?_; refine qw_then ?_
                      refine cw_clean [15, 16, 18, 19, 20, 21, 24, 25, 26, 28, 29, 225] (ws' := [(15, .bool true), (16, .pointer (some ⟨O18, 0, none⟩)), (18, .int .i64 (((pk34 : Nat) : Int) : Int)), (19, .int .i64 (s.2 - s.1 : Int)), (20, .pointer (some ⟨O41, 0, none⟩)), (21, .pointer (some ⟨O84, 0, none⟩)), (24, .pointer (some ⟨O203, 0, none⟩)), (25, .int .i64 lk9), (26, .bool true), (28, .int .i64 (sp.1 + ((j : Nat) : Int) : Int)), (29, .int .i64 (-((pk34 : Nat) : Int) + ((q : Nat) : Int) : Int)), (225, .bool false)]) (by kernel_rfl) (fun L => ?_)
                      refine cw_f (by kernel_rfl) ?_
                      refine cw_skip ?_
                      refine qw_block ?_
                      refine qw_then ?_; refine cw_plain ?_
                      refine pT (.int .i64 (-((pk34 : Nat) : Int) + ((q : Nat) : Int) : Int)) ?_
                      refine pl_take (.int .i64 (-((pk34 : Nat) : Int) + ((q + 1 : Nat) : Int) : Int)) rfl (by kernel_rfl) (by kernel_rfl) (by kernel_rfl) (ev_int (ev_wrap (a := -((pk34 : Nat) : Int) + ((q : Nat) : Int) + 1) (by kernel_rfl) (by omega) (by omega)) (by omega)) ?_
                      refine pT (.int .i64 (-((pk34 : Nat) : Int) + ((q + 1 : Nat) : Int) : Int)) ?_
                      refine pl_nil ?_
                      refine qw_round [15, 16, 18, 19, 20, 21, 24, 25, 26, 28, 29] (ws' := [(15, .bool true), (16, .pointer (some ⟨O18, 0, none⟩)), (18, .int .i64 (((pk34 : Nat) : Int) : Int)), (19, .int .i64 (s.2 - s.1 : Int)), (20, .pointer (some ⟨O41, 0, none⟩)), (21, .pointer (some ⟨O84, 0, none⟩)), (24, .pointer (some ⟨O203, 0, none⟩)), (25, .int .i64 lk9), (26, .bool true), (28, .int .i64 (sp.1 + ((j : Nat) : Int) : Int)), (29, .int .i64 (-((pk34 : Nat) : Int) + ((q + 1 : Nat) : Int) : Int))]) (by kernel_rfl) _ ?_ ⟨(q + 1), rfl, rfl, (T hs281 hs313), hE, hX280, by omega⟩
                      omega
                  ·
                    refine pl_take (.bool false) rfl (by kernel_rfl) (by kernel_rfl) (by kernel_rfl) (ev_neq (show _ = Result.ok (Next.value (Value.bool ((sp.1 + ((j : Nat) : Int) : Int) == (b1 : Int)))) _ from by kernel_rfl) (hc308)) ?_
                    refine pT (.bool false) ?_
                    refine pT (.bool false) ?_
                    refine pl_skip rfl (by kernel_rfl) (by kernel_rfl) (by kernel_rfl) ?_
                    refine pl_skip rfl (by kernel_rfl) (by kernel_rfl) (by kernel_rfl) ?_
                    refine pl_skip rfl (by kernel_rfl) (by kernel_rfl) (by kernel_rfl) ?_
                    refine pl_skip rfl (by kernel_rfl) (by kernel_rfl) (by kernel_rfl) ?_
                    refine pl_skip rfl (by kernel_rfl) (by kernel_rfl) (by kernel_rfl) ?_
                    refine pl_skip rfl (by kernel_rfl) (by kernel_rfl) (by kernel_rfl) ?_
                    refine pl_skip rfl (by kernel_rfl) (by kernel_rfl) (by kernel_rfl) ?_
                    refine pl_skip rfl (by kernel_rfl) (by kernel_rfl) (by kernel_rfl) ?_
                    refine pl_skip rfl (by kernel_rfl) (by kernel_rfl) (by kernel_rfl) ?_
                    refine pT (.bool false) ?_
                    refine pl_nil ?_; refine qw_then ?_
                    refine cw_clean [15, 16, 18, 19, 20, 21, 24, 25, 26, 28, 29, 216] (ws' := [(15, .bool true), (16, .pointer (some ⟨O18, 0, none⟩)), (18, .int .i64 (((pk34 : Nat) : Int) : Int)), (19, .int .i64 (s.2 - s.1 : Int)), (20, .pointer (some ⟨O41, 0, none⟩)), (21, .pointer (some ⟨O84, 0, none⟩)), (24, .pointer (some ⟨O203, 0, none⟩)), (25, .int .i64 lk9), (26, .bool true), (28, .int .i64 (sp.1 + ((j : Nat) : Int) : Int)), (29, .int .i64 (-((pk34 : Nat) : Int) + ((q : Nat) : Int) : Int)), (216, .bool false)]) (by kernel_rfl) (fun L => ?_)
                    refine cw_f (by kernel_rfl) ?_
                    refine cw_skip ?_
                    refine qw_then ?_; refine cw_seq ?_; refine cw_plain ?_
                    have hY314 := hX97.trans hY284
                    have hY315 := hX24.trans hY314
                    refine pl_take (.agg #[.int .i64 o.p, .int .i64 o.f, .int .i64 o.lo, .int .i64 o.hi, .int .i64 o.nd, .int .i64 o.tn, .int .i64 o.sl]) rfl (by kernel_rfl) (by kernel_rfl) (by kernel_rfl) (ex_load rfl (by kernel_rfl) (ld24 ((BoxAt.ext (hY315.trans hX280) bO18_0).1) ((BoxAt.ext (hY315.trans hX280) bO18_1).1) ((BoxAt.ext (hY315.trans hX280) bO18_2).1) ((BoxAt.ext (hY315.trans hX280) bO18_3).1) ((BoxAt.ext (hY315.trans hX280) bO18_4).1) ((BoxAt.ext (hY315.trans hX280) bO18_5).1) ((BoxAt.ext (hY315.trans hX280) bO18_6).1))) ?_
                    refine pT (.int .i64 (sp.1 + ((j : Nat) : Int) : Int)) ?_
                    refine pT (.int .i64 (sp.1 + ((j : Nat) : Int) : Int)) ?_
                    refine pT (.int .i64 (s.2 - s.1 : Int)) ?_
                    refine pl_take (.int .i64 ((sp.1 + ((j : Nat) : Int)) + (s.2 - s.1) : Int)) rfl (by kernel_rfl) (by kernel_rfl) (by kernel_rfl) (ev_wrap (by kernel_rfl) (by omega) (by omega)) ?_
                    refine pT (.agg #[.int .i64 (sp.1 + ((j : Nat) : Int) : Int), .int .i64 ((sp.1 + ((j : Nat) : Int)) + (s.2 - s.1) : Int)]) ?_
                    refine pT (.int .i64 (-((pk34 : Nat) : Int) + ((q : Nat) : Int) : Int)) ?_
                    refine pl_take (.agg #[.slice (some ⟨B9, 0, none⟩) 24 k9]) rfl (by kernel_rfl) (by kernel_rfl) (by kernel_rfl) (ex_load rfl (by kernel_rfl) (ld31 ((BoxAt.ext (hY284.trans hX280) zb).1))) ?_
                    refine pS (sn_call (f := 24) (args := #[.agg #[.int .i64 o.p, .int .i64 o.f, .int .i64 o.lo, .int .i64 o.hi, .int .i64 o.nd, .int .i64 o.tn, .int .i64 o.sl], .agg #[.int .i64 (sp.1 + ((j : Nat) : Int) : Int), .int .i64 ((sp.1 + ((j : Nat) : Int)) + (s.2 - s.1) : Int)], .int .i64 (-((pk34 : Nat) : Int) + ((q : Nat) : Int) : Int), .agg #[.slice (some ⟨B9, 0, none⟩) 24 k9]]) (by kernel_rfl) ((Shows_r (s := (sp.1 + ((j : Nat) : Int), (sp.1 + ((j : Nat) : Int)) + (s.2 - s.1))) (r := false) _ _ (RowsAt.va (rb.ext (hY284.trans hX280)) (hvl9)).aa (Ext.refl _) (by first | exact hno _ _ (by omega) (by omega) (by omega) (by omega) | (rw [show sp.1 + ((j : Nat) : Int) = b1 by omega]; exact hno2 _ (by omega) (by omega) (by omega)))).mono ?_))
                    rintro e w316 ⟨rfl, hb⟩
                    replace hE := hE.trans hb; replace hX280 := hX280.trans hb; have hs317 := hb.size; clear hb
                    refine ⟨_, rfl, ?_⟩
                    refine pl_nil ?_; refine qw_then ?_
                    refine cw_clean [15, 16, 18, 19, 20, 21, 24, 25, 26, 28, 29, 225] (ws' := [(15, .bool true), (16, .pointer (some ⟨O18, 0, none⟩)), (18, .int .i64 (((pk34 : Nat) : Int) : Int)), (19, .int .i64 (s.2 - s.1 : Int)), (20, .pointer (some ⟨O41, 0, none⟩)), (21, .pointer (some ⟨O84, 0, none⟩)), (24, .pointer (some ⟨O203, 0, none⟩)), (25, .int .i64 lk9), (26, .bool true), (28, .int .i64 (sp.1 + ((j : Nat) : Int) : Int)), (29, .int .i64 (-((pk34 : Nat) : Int) + ((q : Nat) : Int) : Int)), (225, .bool false)]) (by kernel_rfl) (fun L => ?_)
                    refine cw_f (by kernel_rfl) ?_
                    refine cw_skip ?_
                    refine qw_block ?_
                    refine qw_then ?_; refine cw_plain ?_
                    refine pT (.int .i64 (-((pk34 : Nat) : Int) + ((q : Nat) : Int) : Int)) ?_
                    refine pl_take (.int .i64 (-((pk34 : Nat) : Int) + ((q + 1 : Nat) : Int) : Int)) rfl (by kernel_rfl) (by kernel_rfl) (by kernel_rfl) (ev_int (ev_wrap (a := -((pk34 : Nat) : Int) + ((q : Nat) : Int) + 1) (by kernel_rfl) (by omega) (by omega)) (by omega)) ?_
                    refine pT (.int .i64 (-((pk34 : Nat) : Int) + ((q + 1 : Nat) : Int) : Int)) ?_
                    refine pl_nil ?_
                    refine qw_round [15, 16, 18, 19, 20, 21, 24, 25, 26, 28, 29] (ws' := [(15, .bool true), (16, .pointer (some ⟨O18, 0, none⟩)), (18, .int .i64 (((pk34 : Nat) : Int) : Int)), (19, .int .i64 (s.2 - s.1 : Int)), (20, .pointer (some ⟨O41, 0, none⟩)), (21, .pointer (some ⟨O84, 0, none⟩)), (24, .pointer (some ⟨O203, 0, none⟩)), (25, .int .i64 lk9), (26, .bool true), (28, .int .i64 (sp.1 + ((j : Nat) : Int) : Int)), (29, .int .i64 (-((pk34 : Nat) : Int) + ((q + 1 : Nat) : Int) : Int))]) (by kernel_rfl) _ ?_ ⟨(q + 1), rfl, rfl, (T hs281 hs317), hE, hX280, by omega⟩
                    omega
              ·
                refine cw_seq ?_; refine cw_seq ?_; refine cw_plain ?_
                refine pT (.int .i64 (-((pk34 : Nat) : Int) + ((q : Nat) : Int) : Int)) ?_
                refine pT (.int .i64 (((pk34 : Nat) : Int) : Int)) ?_
                refine pl_take (.bool false) rfl (by kernel_rfl) (by kernel_rfl) (by kernel_rfl) (ev_ndec (show _ = Result.ok (Next.value (Value.bool (decide ((-((pk34 : Nat) : Int) + ((q : Nat) : Int) : Int) ≤ (((pk34 : Nat) : Int) : Int))))) _ from by kernel_rfl) (by omega)) ?_
                refine pl_nil ?_; refine qw_then ?_
                refine cw_f (by kernel_rfl) ?_
                refine cw_exit ?_
                refine qw_then_exit ?_
                refine qw_then_exit ?_
                refine qw_block_out ?_
                refine qw_block ?_
                refine qw_then ?_; refine cw_plain ?_
                refine pT (.int .i64 (sp.1 + ((j : Nat) : Int) : Int)) ?_
                refine pl_take (.int .i64 (sp.1 + ((j + 1 : Nat) : Int) : Int)) rfl (by kernel_rfl) (by kernel_rfl) (by kernel_rfl) (ev_int (ev_wrap (a := sp.1 + ((j : Nat) : Int) + 1) (by kernel_rfl) (by omega) (by omega)) (by omega)) ?_
                refine pT (.int .i64 (sp.1 + ((j + 1 : Nat) : Int) : Int)) ?_
                refine pl_nil ?_
                refine qw_round [15, 16, 18, 19, 20, 21, 24, 25, 26, 28] (ws' := [(15, .bool true), (16, .pointer (some ⟨O18, 0, none⟩)), (18, .int .i64 (((pk34 : Nat) : Int) : Int)), (19, .int .i64 (s.2 - s.1 : Int)), (20, .pointer (some ⟨O41, 0, none⟩)), (21, .pointer (some ⟨O84, 0, none⟩)), (24, .pointer (some ⟨O203, 0, none⟩)), (25, .int .i64 lk9), (26, .bool true), (28, .int .i64 (sp.1 + ((j + 1 : Nat) : Int) : Int))]) (by kernel_rfl) _ ?_ ⟨(j + 1), rfl, rfl, (T hs275 hs281), hE, (hX274.trans hX280), by omega⟩
                omega
          ·
            refine cw_seq ?_; refine cw_seq ?_; refine cw_plain ?_
            refine pT (.int .i64 (sp.1 + ((j : Nat) : Int) : Int)) ?_
            refine pT (.int .i64 (s.2 - s.1 : Int)) ?_
            refine pl_take (.int .i64 ((sp.1 + ((j : Nat) : Int)) + (s.2 - s.1) : Int)) rfl (by kernel_rfl) (by kernel_rfl) (by kernel_rfl) (ev_wrap (by kernel_rfl) (by omega) (by omega)) ?_
            refine pT (.pointer (some ⟨O41, 1, none⟩)) ?_
            have hY318 := hX97.trans hX270
            refine pl_take (.int .i64 sp.2) rfl (by kernel_rfl) (by kernel_rfl) (by kernel_rfl) (ex_load rfl (by kernel_rfl) (ld3 ((BoxAt.ext (hY318.trans hX274) bO41_1).1))) ?_
            refine pl_take (.bool false) rfl (by kernel_rfl) (by kernel_rfl) (by kernel_rfl) (ev_ndec (show _ = Result.ok (Next.value (Value.bool (decide (((sp.1 + ((j : Nat) : Int)) + (s.2 - s.1) : Int) ≤ (sp.2 : Int))))) _ from by kernel_rfl) (by omega)) ?_
            refine pl_nil ?_; refine qw_then ?_
            refine cw_clean [15, 16, 18, 19, 20, 21, 24, 25, 26, 28, 159] (ws' := [(15, .bool true), (16, .pointer (some ⟨O18, 0, none⟩)), (18, .int .i64 (((pk34 : Nat) : Int) : Int)), (19, .int .i64 (s.2 - s.1 : Int)), (20, .pointer (some ⟨O41, 0, none⟩)), (21, .pointer (some ⟨O84, 0, none⟩)), (24, .pointer (some ⟨O203, 0, none⟩)), (25, .int .i64 lk9), (26, .bool true), (28, .int .i64 (sp.1 + ((j : Nat) : Int) : Int)), (159, .bool false)]) (by kernel_rfl) (fun L => ?_)
            refine cw_f (by kernel_rfl) ?_
            refine cw_exit ?_
            refine qw_then_exit ?_
            refine qw_then_exit ?_
            refine qw_block_out ?_
            refine qw_then ?_; refine cw_seq ?_; refine cw_plain ?_
            refine pT (.bool true) ?_
            refine pT (.bool true) ?_
            refine pl_nil ?_; refine qw_then ?_
            refine cw_ret ?_
            refine qw_ret [.bool true] rfl ⟨(by kernel_rfl), trivial⟩ ?_
            exact ⟨rfl, hE⟩
theorem SwathBest_walk (v0 : Value) (op0 : Seven v0) (v1 : Value) (op1 : Pair v1) (v2 : Value) (op2 : Four v2) (wd : Int) (iwd : IsI wd) (bf : Int) (ibf : IsI bf) (af : Int) (iaf : IsI af) (track : Bool) (w : World) : Calls Try.prog 5 #[v0, v1, v2, .int .i64 wd, .int .i64 bf, .int .i64 af, .bool track] w fun e w' => e = .returned (.bool true) ∧ Ext w w' := by
  obtain ⟨x0, x1, x2, x3, x4, x5, x6, rfl, ix0, ix1, ix2, ix3, ix4, ix5, ix6⟩ := op0
  obtain ⟨y0, y1, rfl, iy0, iy1⟩ := op1
  obtain ⟨z0, z1, z2, z3, rfl, iz0, iz1, iz2, iz3⟩ := op2
  exact SwathBest_w x0 x1 x2 x3 x4 x5 x6 y0 y1 z0 z1 z2 z3 wd bf af track ix0 ix1 ix2 ix3 ix4 ix5 ix6 iy0 iy1 iz0 iz1 iz2 iz3 iwd ibf iaf w

end Go.Proofs.Ytdjjkhefdalokaa
