/- Part 6 of what the proof of SwathLooks stands on. -/
import Derived.Test.YtdjjkhefdalokaaV5SwathLooks
import Derived.Test.YtdjjkhefdalokaaRows
import Derived.ProofKit
import Derived.OpenShut
import Derived.ChangeOld
import Derived.Deep.Slices
import Derived.SizedLaws
import Derived.Handed
/- The examples of chapter 8. -/
namespace Go.Proofs.Ytdjjkhefdalokaa
open Go.RowKit

namespace Swath
def o0 : Orb := ⟨200, 0, 0, 20000, 10000, 0, 1⟩
def s0 : Int × Int := (10, 20)
def sp0 : Int × Int := (0, 60)
end Swath
theorem best_ex3 : Swath.best Swath.o0 Swath.sp0 10 3 (Swath.stripL 12 [5]) = ((17, 27), 2, true) := by kernel_rfl
theorem best_ex1 : Swath.best Swath.o0 Swath.sp0 10 1 (Swath.stripL 12 [5]) = ((0, 0), 0, false) := by kernel_rfl
theorem Best_r {w1 : World} {o : Orb} {sp : Int × Int} {mi : Int} {W : Nat} {a : Option Addr} {l : List Int} {n : Nat} {bt : (Int × Int) × Int × Bool} (c : Nat) (w : World) (hA : AA w1 a l n true) (e1 : Ext w1 w) (g1 : Orb.ok o = true) (g2 : Swath.spB sp 300 = true) (g3 : Globe.inB mi 1 60 = true) (g4 : Globe.inB ((W : Nat) : Int) 0 4 = true) (hbt : Swath.best o sp mi W l = bt) :
    Calls Try.prog 26 #[.agg #[.int .i64 o.p, .int .i64 o.f, .int .i64 o.lo, .int .i64 o.hi, .int .i64 o.nd, .int .i64 o.tn, .int .i64 o.sl], .agg #[.int .i64 sp.1, .int .i64 sp.2], .int .i64 mi, .int .i64 ((W : Nat) : Int), .agg #[.slice a n c]] w fun e w' => e = .returned (.tuple #[.agg #[.int .i64 bt.1.1, .int .i64 bt.1.2], .int .i64 bt.2.1, .bool bt.2.2, .int .i64 0]) ∧ Ext w w' := hbt ▸ Best_y c w hA e1 g1 g2 g3 g4
theorem rSame_v {b1 o1 b2 o2 : Nat} (c1 c2 : Nat) {l1 l2 : List Int} {r : Bool} (w : World) (h1 : VA w b1 o1 l1) (h2 : VA w b2 o2 l2) (hr : decide (l1 = l2) = r) :
    Calls Try.prog 16 #[.agg #[.slice (some ⟨b1, o1, none⟩) 24 c1], .agg #[.slice (some ⟨b2, o2, none⟩) 24 c2]] w fun e w' => e = .returned (.bool r) ∧ Ext w w' := hr ▸ rSame_c c1 c2 w h1.aa (Ext.refl _) h2.aa (Ext.refl _)
set_option maxRecDepth 1000000 in
set_option maxHeartbeats 4000000 in
theorem SameStrip_t {b1 o1 b2 o2 b3 o3 b4 o4 c1 c2 c3 c4 : Nat} {l1 l2 m1 m2 : List Int} (w : World) (h1 : VA w b1 o1 l1) (h2 : VA w b2 o2 l2) (h3 : VA w b3 o3 m1) (h4 : VA w b4 o4 m2) (e1 : l1 = m1) (e2 : l2 = m2) : Calls Try.prog 21 #[.agg #[.slice (some ⟨b1, o1, none⟩) 24 c1, .slice (some ⟨b2, o2, none⟩) 24 c2], .agg #[.slice (some ⟨b3, o3, none⟩) 24 c3, .slice (some ⟨b4, o4, none⟩) 24 c4]] w fun e w' => e = .returned (.bool true) ∧ Ext w w' := by
  refine calls_cw 17 [(1, .agg #[.slice (some ⟨b3, o3, none⟩) 24 c3, .slice (some ⟨b4, o4, none⟩) 24 c4]), (0, .agg #[.slice (some ⟨b1, o1, none⟩) 24 c1, .slice (some ⟨b2, o2, none⟩) 24 c2])] Try.func21 rfl Try.ntmps21 (by kernel_rfl) (by kernel_rfl) (fun L => ?_)
  have hE : Ext w w := Ext.refl w
  refine cw_seq ?_; refine cw_plain ?_
  refine pS (sn_new (us := #[.slice (some ⟨b1, o1, none⟩) 24 c1, .slice (some ⟨b2, o2, none⟩) 24 c2]) (t := 44) (by kernel_rfl) ?_)
  intro O1 X2 hO hOs hb hbx
  have hzO1 := hO; have hyO1 := hOs; clear hO hOs
  have bO1_0 : BoxAt X2 O1 0 (.slice (some ⟨b1, o1, none⟩) 24 c1) := hbx 0 _ rfl
  have bO1_1 : BoxAt X2 O1 1 (.slice (some ⟨b2, o2, none⟩) 24 c2) := hbx 1 _ rfl
  clear hbx; replace hE := hE.trans hb; have hs3 := hb.size; clear hb; have lt4 := bO1_0.lt
  refine pS (sn_new (us := #[.slice (some ⟨b3, o3, none⟩) 24 c3, .slice (some ⟨b4, o4, none⟩) 24 c4]) (t := 44) (by kernel_rfl) ?_)
  intro O5 X6 hO hOs hb hbx
  have hzO5 := hO; have hyO5 := hOs; clear hO hOs
  have bO5_0 : BoxAt X6 O5 0 (.slice (some ⟨b3, o3, none⟩) 24 c3) := hbx 0 _ rfl
  have bO5_1 : BoxAt X6 O5 1 (.slice (some ⟨b4, o4, none⟩) 24 c4) := hbx 1 _ rfl
  clear hbx; replace hE := hE.trans hb; replace bO1_0 := BoxAt.ext hb bO1_0; replace bO1_1 := BoxAt.ext hb bO1_1; have hs7 := hb.size; clear hb; have lt8 := bO5_0.lt
  refine pT (.bool false) ?_
  refine pl_nil ?_; refine qw_then ?_; refine cw_seq ?_; refine cw_plain ?_
  refine pT (.pointer (some ⟨O1, 0, none⟩)) ?_
  refine pl_take (.agg #[.slice (some ⟨b1, o1, none⟩) 24 c1]) rfl (by kernel_rfl) (by kernel_rfl) (by kernel_rfl) (ex_load rfl (by kernel_rfl) (ld31 (bO1_0.1))) ?_
  refine pT (.pointer (some ⟨O5, 0, none⟩)) ?_
  refine pl_take (.agg #[.slice (some ⟨b3, o3, none⟩) 24 c3]) rfl (by kernel_rfl) (by kernel_rfl) (by kernel_rfl) (ex_load rfl (by kernel_rfl) (ld31 (bO5_0.1))) ?_
  refine pS (sn_call (f := 16) (args := #[.agg #[.slice (some ⟨b1, o1, none⟩) 24 c1], .agg #[.slice (some ⟨b3, o3, none⟩) 24 c3]]) (by kernel_rfl) ((rSame_v (r := true) _ _ _ ((h1.ext hE)) ((h3.ext hE)) (decide_eq_true e1)).mono ?_))
  rintro e w9 ⟨rfl, hb⟩
  replace hE := hE.trans hb; replace bO1_0 := BoxAt.ext hb bO1_0; replace bO1_1 := BoxAt.ext hb bO1_1; replace bO5_0 := BoxAt.ext hb bO5_0; replace bO5_1 := BoxAt.ext hb bO5_1; have hs10 := hb.size; clear hb
  refine ⟨_, rfl, ?_⟩
  refine pT (.bool true) ?_
  refine pT (.pointer (some ⟨O1, 1, none⟩)) ?_
  refine pl_take (.agg #[.slice (some ⟨b2, o2, none⟩) 24 c2]) rfl (by kernel_rfl) (by kernel_rfl) (by kernel_rfl) (ex_load rfl (by kernel_rfl) (ld31 (bO1_1.1))) ?_
  refine pT (.pointer (some ⟨O5, 1, none⟩)) ?_
  refine pl_take (.agg #[.slice (some ⟨b4, o4, none⟩) 24 c4]) rfl (by kernel_rfl) (by kernel_rfl) (by kernel_rfl) (ex_load rfl (by kernel_rfl) (ld31 (bO5_1.1))) ?_
  refine pS (sn_call (f := 16) (args := #[.agg #[.slice (some ⟨b2, o2, none⟩) 24 c2], .agg #[.slice (some ⟨b4, o4, none⟩) 24 c4]]) (by kernel_rfl) ((rSame_v (r := true) _ _ _ ((h2.ext hE)) ((h4.ext hE)) (decide_eq_true e2)).mono ?_))
  rintro e w11 ⟨rfl, hb⟩
  replace hE := hE.trans hb; replace bO1_0 := BoxAt.ext hb bO1_0; replace bO1_1 := BoxAt.ext hb bO1_1; replace bO5_0 := BoxAt.ext hb bO5_0; replace bO5_1 := BoxAt.ext hb bO5_1; have hs12 := hb.size; clear hb
  refine ⟨_, rfl, ?_⟩
  refine pT (.bool true) ?_
  refine pT (.bool true) ?_
  refine pl_nil ?_; refine qw_then ?_
  refine cw_clean [4] (ws' := [(4, .bool true)]) (by kernel_rfl) (fun L => ?_)
  refine cw_ret ?_
  refine qw_ret [.bool true] rfl ⟨(by kernel_rfl), trivial⟩ ?_
  exact ⟨rfl, hE⟩
set_option maxRecDepth 1000000 in
set_option maxHeartbeats 4000000 in
theorem saneS_c (w : World) : Calls Try.prog 9 #[] w fun e w' => e = .returned (.bool true) ∧ Ext w w' := by
  refine calls_cw 189 [] Try.func9 rfl Try.ntmps9 (by kernel_rfl) (by kernel_rfl) (fun L => ?_)
  have hE : Ext w w := Ext.refl w
  refine cw_seq ?_; refine cw_plain ?_
  refine pT (.bool false) ?_
  refine pl_nil ?_; refine qw_then ?_; refine cw_seq ?_; refine cw_plain ?_
  refine pT (.agg #[.int .i64 200, .int .i64 0, .int .i64 0, .int .i64 20000, .int .i64 10000, .int .i64 0, .int .i64 1]) ?_
  refine pS (sn_new (us := #[.int .i64 0, .int .i64 0, .int .i64 0, .int .i64 0, .int .i64 0, .int .i64 0, .int .i64 0]) (t := 24) (by kernel_rfl) ?_)
  intro O1 X2 hO hOs hb hbx
  have hzO1 := hO; have hyO1 := hOs; clear hO hOs
  have bO1_0 : BoxAt X2 O1 0 (.int .i64 0) := hbx 0 _ rfl
  have bO1_1 : BoxAt X2 O1 1 (.int .i64 0) := hbx 1 _ rfl
  have bO1_2 : BoxAt X2 O1 2 (.int .i64 0) := hbx 2 _ rfl
  have bO1_3 : BoxAt X2 O1 3 (.int .i64 0) := hbx 3 _ rfl
  have bO1_4 : BoxAt X2 O1 4 (.int .i64 0) := hbx 4 _ rfl
  have bO1_5 : BoxAt X2 O1 5 (.int .i64 0) := hbx 5 _ rfl
  have bO1_6 : BoxAt X2 O1 6 (.int .i64 0) := hbx 6 _ rfl
  clear hbx; replace hE := hE.trans hb; have hs3 := hb.size; clear hb; have lt4 := bO1_0.lt
  refine pl_put rfl (by kernel_rfl) (by kernel_rfl) (sn_setK7 (O := O1) (j := 0) (v0 := .int .i64 200) (v1 := .int .i64 0) (v2 := .int .i64 0) (v3 := .int .i64 20000) (v4 := .int .i64 10000) (v5 := .int .i64 0) (v6 := .int .i64 1) (ex_store (p := .pointer (some ⟨O1, 0, none⟩)) (v := .agg #[.int .i64 200, .int .i64 0, .int .i64 0, .int .i64 20000, .int .i64 10000, .int .i64 0, .int .i64 1]) rfl (by kernel_rfl) (by kernel_rfl) (st24 bO1_0.1 bO1_0.2 bO1_1.1 bO1_1.2 bO1_2.1 bO1_2.2 bO1_3.1 bO1_3.2 bO1_4.1 bO1_4.2 bO1_5.1 bO1_5.2 bO1_6.1 bO1_6.2)) bO1_0 bO1_1 bO1_2 bO1_3 bO1_4 bO1_5 bO1_6 ?_)
  intro X5 ho hv0 hv1 hv2 hv3 hv4 hv5 hv6 hk
  replace hE := ho.ext hE (Nat.le_of_eq hzO1)
  have hs6 : X2.heap.size ≤ X5.heap.size := Nat.le_of_eq ho.size.symm
  clear ho hk bO1_0 bO1_1 bO1_2 bO1_3 bO1_4 bO1_5 bO1_6
  have bO1_0 := hv0; clear hv0
  have bO1_1 := hv1; clear hv1
  have bO1_2 := hv2; clear hv2
  have bO1_3 := hv3; clear hv3
  have bO1_4 := hv4; clear hv4
  have bO1_5 := hv5; clear hv5
  have bO1_6 := hv6; clear hv6
  refine pl_nil ?_; refine qw_then ?_; refine cw_seq ?_; refine cw_plain ?_
  refine pT (.agg #[.int .i64 10, .int .i64 20]) ?_
  refine pS (sn_new (us := #[.int .i64 0, .int .i64 0]) (t := 26) (by kernel_rfl) ?_)
  intro O7 X8 hO hOs hb hbx
  have hzO7 := hO; have hyO7 := hOs; clear hO hOs
  have bO7_0 : BoxAt X8 O7 0 (.int .i64 0) := hbx 0 _ rfl
  have bO7_1 : BoxAt X8 O7 1 (.int .i64 0) := hbx 1 _ rfl
  clear hbx; replace hE := hE.trans hb; replace bO1_0 := BoxAt.ext hb bO1_0; replace bO1_1 := BoxAt.ext hb bO1_1; replace bO1_2 := BoxAt.ext hb bO1_2; replace bO1_3 := BoxAt.ext hb bO1_3; replace bO1_4 := BoxAt.ext hb bO1_4; replace bO1_5 := BoxAt.ext hb bO1_5; replace bO1_6 := BoxAt.ext hb bO1_6; have hs9 := hb.size; clear hb; have lt10 := bO7_0.lt
  refine pl_put rfl (by kernel_rfl) (by kernel_rfl) (sn_set2 (O := O7) (j := 0) (v := .int .i64 10) (v' := .int .i64 20) (ex_store (p := .pointer (some ⟨O7, 0, none⟩)) (v := .agg #[.int .i64 10, .int .i64 20]) rfl (by kernel_rfl) (by kernel_rfl) (st26 bO7_0.1 bO7_0.2 bO7_1.1 bO7_1.2)) bO7_0 bO7_1 ?_)
  intro X11 ho hv0 hv1 hk
  replace hE := ho.ext hE (T (T hs3 hs6) (Nat.le_of_eq hzO7)); replace bO1_0 := ho.box (Nat.ne_of_gt (Nat.lt_of_lt_of_le lt4 (T hs6 (Nat.le_of_eq hzO7)))) bO1_0; replace bO1_1 := ho.box (Nat.ne_of_gt (Nat.lt_of_lt_of_le lt4 (T hs6 (Nat.le_of_eq hzO7)))) bO1_1; replace bO1_2 := ho.box (Nat.ne_of_gt (Nat.lt_of_lt_of_le lt4 (T hs6 (Nat.le_of_eq hzO7)))) bO1_2; replace bO1_3 := ho.box (Nat.ne_of_gt (Nat.lt_of_lt_of_le lt4 (T hs6 (Nat.le_of_eq hzO7)))) bO1_3; replace bO1_4 := ho.box (Nat.ne_of_gt (Nat.lt_of_lt_of_le lt4 (T hs6 (Nat.le_of_eq hzO7)))) bO1_4; replace bO1_5 := ho.box (Nat.ne_of_gt (Nat.lt_of_lt_of_le lt4 (T hs6 (Nat.le_of_eq hzO7)))) bO1_5; replace bO1_6 := ho.box (Nat.ne_of_gt (Nat.lt_of_lt_of_le lt4 (T hs6 (Nat.le_of_eq hzO7)))) bO1_6
  have hs12 : X8.heap.size ≤ X11.heap.size := Nat.le_of_eq ho.size.symm
  clear ho hk bO7_0 bO7_1
  have bO7_0 := hv0; clear hv0
  have bO7_1 := hv1; clear hv1
  refine pl_nil ?_; refine qw_then ?_; refine cw_seq ?_
  have hX13 : Ext X11 X11 := Ext.refl _
  refine cw_plain ?_
  refine pl_take (.agg #[.int .i64 200, .int .i64 0, .int .i64 0, .int .i64 20000, .int .i64 10000, .int .i64 0, .int .i64 1]) rfl (by kernel_rfl) (by kernel_rfl) (by kernel_rfl) (ex_load rfl (by kernel_rfl) (ld24 (bO1_0.1) (bO1_1.1) (bO1_2.1) (bO1_3.1) (bO1_4.1) (bO1_5.1) (bO1_6.1))) ?_
  refine pl_take (.agg #[.int .i64 10, .int .i64 20]) rfl (by kernel_rfl) (by kernel_rfl) (by kernel_rfl) (ex_load rfl (by kernel_rfl) (ld26 (bO7_0.1) (bO7_1.1))) ?_
  refine pS (sn_call (f := 14) (args := #[.agg #[.int .i64 200, .int .i64 0, .int .i64 0, .int .i64 20000, .int .i64 10000, .int .i64 0, .int .i64 1], .agg #[.int .i64 10, .int .i64 20], .int .i64 0, .int .i64 0]) (by kernel_rfl) ((Shown_y (o := Swath.o0) (s := Swath.s0) (lk := 0) (d := 0) _ (by kernel_rfl)).mono ?_))
  rintro e w17 ⟨B14, rfl, hn15, hr16, hb⟩
  replace hE := hE.trans hb; replace hX13 := hX13.trans hb; have hs18 := hb.size; clear hb; have lt19 := hr16.lt
  refine ⟨_, rfl, ?_⟩
  refine pT (.tuple #[.agg #[.slice (some ⟨B14, 0, none⟩) 24 24], .int .i64 0]) ?_
  refine pT (.agg #[.slice (some ⟨B14, 0, none⟩) 24 24]) ?_
  refine pT (.int .i64 0) ?_
  refine pS (sn_new (us := #[.slice none 0 0]) (t := 31) (by kernel_rfl) ?_)
  intro O20 X21 hO hOs hb hbx
  have hzO20 := hO; have hyO20 := hOs; clear hO hOs
  have bO20_0 : BoxAt X21 O20 0 (.slice none 0 0) := hbx 0 _ rfl
  clear hbx; replace hE := hE.trans hb; replace hX13 := hX13.trans hb; replace hr16 := hr16.ext hb; have hs22 := hb.size; clear hb; have lt23 := bO20_0.lt
  refine pl_put rfl (by kernel_rfl) (by kernel_rfl) (sn_set (O := O20) (j := 0) (v := .slice (some ⟨B14, 0, none⟩) 24 24) (ex_store (p := .pointer (some ⟨O20, 0, none⟩)) (v := .agg #[.slice (some ⟨B14, 0, none⟩) 24 24]) rfl (by kernel_rfl) (by kernel_rfl) (st31 bO20_0.1 bO20_0.2)) bO20_0 ?_)
  intro X24 ho hv0 hk
  replace hE := ho.ext hE (T (T hs3 (T hs6 (T hs9 (T hs12 hs18)))) (Nat.le_of_eq hzO20)); replace hX13 := ho.ext hX13 (T hs18 (Nat.le_of_eq hzO20)); replace hr16 := ho.rows (Nat.ne_of_gt (Nat.lt_of_lt_of_le lt19 (Nat.le_of_eq hzO20))) hr16
  have hs25 : X21.heap.size ≤ X24.heap.size := Nat.le_of_eq ho.size.symm
  clear ho hk bO20_0
  have bO20_0 := hv0; clear hv0
  refine pT (.int .i64 0) ?_
  refine pl_nil ?_; refine qw_then ?_; refine cw_seq ?_
  have hX26 : Ext X24 X24 := Ext.refl _
  refine cw_plain ?_
  refine pl_take (.agg #[.int .i64 200, .int .i64 0, .int .i64 0, .int .i64 20000, .int .i64 10000, .int .i64 0, .int .i64 1]) rfl (by kernel_rfl) (by kernel_rfl) (by kernel_rfl) (ex_load rfl (by kernel_rfl) (ld24 ((BoxAt.ext hX13 bO1_0).1) ((BoxAt.ext hX13 bO1_1).1) ((BoxAt.ext hX13 bO1_2).1) ((BoxAt.ext hX13 bO1_3).1) ((BoxAt.ext hX13 bO1_4).1) ((BoxAt.ext hX13 bO1_5).1) ((BoxAt.ext hX13 bO1_6).1))) ?_
  refine pl_take (.agg #[.int .i64 10, .int .i64 20]) rfl (by kernel_rfl) (by kernel_rfl) (by kernel_rfl) (ex_load rfl (by kernel_rfl) (ld26 ((BoxAt.ext hX13 bO7_0).1) ((BoxAt.ext hX13 bO7_1).1))) ?_
  refine pS (sn_call (f := 14) (args := #[.agg #[.int .i64 200, .int .i64 0, .int .i64 0, .int .i64 20000, .int .i64 10000, .int .i64 0, .int .i64 1], .agg #[.int .i64 10, .int .i64 20], .int .i64 0, .int .i64 1]) (by kernel_rfl) ((Shown_y (o := Swath.o0) (s := Swath.s0) (lk := 0) (d := 1) _ (by kernel_rfl)).mono ?_))
  rintro e w30 ⟨B27, rfl, hn28, hr29, hb⟩
  replace hE := hE.trans hb; replace hX13 := hX13.trans hb; replace hX26 := hX26.trans hb; have hs31 := hb.size; clear hb; have lt32 := hr29.lt
  refine ⟨_, rfl, ?_⟩
  refine pT (.tuple #[.agg #[.slice (some ⟨B27, 0, none⟩) 24 24], .int .i64 0]) ?_
  refine pT (.agg #[.slice (some ⟨B27, 0, none⟩) 24 24]) ?_
  refine pT (.int .i64 0) ?_
  refine pS (sn_new (us := #[.slice none 0 0]) (t := 31) (by kernel_rfl) ?_)
  intro O33 X34 hO hOs hb hbx
  have hzO33 := hO; have hyO33 := hOs; clear hO hOs
  have bO33_0 : BoxAt X34 O33 0 (.slice none 0 0) := hbx 0 _ rfl
  clear hbx; replace hE := hE.trans hb; replace hX13 := hX13.trans hb; replace hX26 := hX26.trans hb; replace hr29 := hr29.ext hb; have hs35 := hb.size; clear hb; have lt36 := bO33_0.lt
  refine pl_put rfl (by kernel_rfl) (by kernel_rfl) (sn_set (O := O33) (j := 0) (v := .slice (some ⟨B27, 0, none⟩) 24 24) (ex_store (p := .pointer (some ⟨O33, 0, none⟩)) (v := .agg #[.slice (some ⟨B27, 0, none⟩) 24 24]) rfl (by kernel_rfl) (by kernel_rfl) (st31 bO33_0.1 bO33_0.2)) bO33_0 ?_)
  intro X37 ho hv0 hk
  replace hE := ho.ext hE (T (T hs3 (T hs6 (T hs9 (T hs12 (T hs18 (T hs22 (T hs25 hs31))))))) (Nat.le_of_eq hzO33)); replace hX13 := ho.ext hX13 (T (T hs18 (T hs22 (T hs25 hs31))) (Nat.le_of_eq hzO33)); replace hX26 := ho.ext hX26 (T hs31 (Nat.le_of_eq hzO33)); replace hr29 := ho.rows (Nat.ne_of_gt (Nat.lt_of_lt_of_le lt32 (Nat.le_of_eq hzO33))) hr29
  have hs38 : X34.heap.size ≤ X37.heap.size := Nat.le_of_eq ho.size.symm
  clear ho hk bO33_0
  have bO33_0 := hv0; clear hv0
  refine pT (.int .i64 0) ?_
  refine pl_nil ?_; refine qw_then ?_
  refine cw_clean [1, 2, 3, 4, 5, 6] (ws' := [(1, .pointer (some ⟨O1, 0, none⟩)), (2, .pointer (some ⟨O7, 0, none⟩)), (3, .pointer (some ⟨O20, 0, none⟩)), (4, .int .i64 0), (5, .pointer (some ⟨O33, 0, none⟩)), (6, .int .i64 0)]) (by kernel_rfl) (fun L => ?_)
  refine cw_seq ?_
  have hX39 : Ext X37 X37 := Ext.refl _
  refine cw_plain ?_
  refine pl_take (.agg #[.int .i64 200, .int .i64 0, .int .i64 0, .int .i64 20000, .int .i64 10000, .int .i64 0, .int .i64 1]) rfl (by kernel_rfl) (by kernel_rfl) (by kernel_rfl) (ex_load rfl (by kernel_rfl) (ld24 ((BoxAt.ext hX13 bO1_0).1) ((BoxAt.ext hX13 bO1_1).1) ((BoxAt.ext hX13 bO1_2).1) ((BoxAt.ext hX13 bO1_3).1) ((BoxAt.ext hX13 bO1_4).1) ((BoxAt.ext hX13 bO1_5).1) ((BoxAt.ext hX13 bO1_6).1))) ?_
  refine pl_take (.agg #[.int .i64 10, .int .i64 20]) rfl (by kernel_rfl) (by kernel_rfl) (by kernel_rfl) (ex_load rfl (by kernel_rfl) (ld26 ((BoxAt.ext hX13 bO7_0).1) ((BoxAt.ext hX13 bO7_1).1))) ?_
  refine pS (sn_call (f := 14) (args := #[.agg #[.int .i64 200, .int .i64 0, .int .i64 0, .int .i64 20000, .int .i64 10000, .int .i64 0, .int .i64 1], .agg #[.int .i64 10, .int .i64 20], .int .i64 0, .int .i64 (-1 : Int)]) (by kernel_rfl) ((Shown_y (o := Swath.o0) (s := Swath.s0) (lk := 0) (d := -1) _ (by kernel_rfl)).mono ?_))
  rintro e w43 ⟨B40, rfl, hn41, hr42, hb⟩
  replace hE := hE.trans hb; replace hX13 := hX13.trans hb; replace hX26 := hX26.trans hb; replace hX39 := hX39.trans hb; have hs44 := hb.size; clear hb; have lt45 := hr42.lt
  refine ⟨_, rfl, ?_⟩
  refine pT (.tuple #[.agg #[.slice (some ⟨B40, 0, none⟩) 24 24], .int .i64 0]) ?_
  refine pT (.agg #[.slice (some ⟨B40, 0, none⟩) 24 24]) ?_
  refine pT (.int .i64 0) ?_
  refine pS (sn_new (us := #[.slice none 0 0]) (t := 31) (by kernel_rfl) ?_)
  intro O46 X47 hO hOs hb hbx
  have hzO46 := hO; have hyO46 := hOs; clear hO hOs
  have bO46_0 : BoxAt X47 O46 0 (.slice none 0 0) := hbx 0 _ rfl
  clear hbx; replace hE := hE.trans hb; replace hX13 := hX13.trans hb; replace hX26 := hX26.trans hb; replace hX39 := hX39.trans hb; replace hr42 := hr42.ext hb; have hs48 := hb.size; clear hb; have lt49 := bO46_0.lt
  refine pl_put rfl (by kernel_rfl) (by kernel_rfl) (sn_set (O := O46) (j := 0) (v := .slice (some ⟨B40, 0, none⟩) 24 24) (ex_store (p := .pointer (some ⟨O46, 0, none⟩)) (v := .agg #[.slice (some ⟨B40, 0, none⟩) 24 24]) rfl (by kernel_rfl) (by kernel_rfl) (st31 bO46_0.1 bO46_0.2)) bO46_0 ?_)
  intro X50 ho hv0 hk
  replace hE := ho.ext hE (T (T hs3 (T hs6 (T hs9 (T hs12 (T hs18 (T hs22 (T hs25 (T hs31 (T hs35 (T hs38 hs44)))))))))) (Nat.le_of_eq hzO46)); replace hX13 := ho.ext hX13 (T (T hs18 (T hs22 (T hs25 (T hs31 (T hs35 (T hs38 hs44)))))) (Nat.le_of_eq hzO46)); replace hX26 := ho.ext hX26 (T (T hs31 (T hs35 (T hs38 hs44))) (Nat.le_of_eq hzO46)); replace hX39 := ho.ext hX39 (T hs44 (Nat.le_of_eq hzO46)); replace hr42 := ho.rows (Nat.ne_of_gt (Nat.lt_of_lt_of_le lt45 (Nat.le_of_eq hzO46))) hr42
  have hs51 : X47.heap.size ≤ X50.heap.size := Nat.le_of_eq ho.size.symm
  clear ho hk bO46_0
  have bO46_0 := hv0; clear hv0
  refine pT (.int .i64 0) ?_
  refine pl_nil ?_; refine qw_then ?_; refine cw_seq ?_
  have hX52 : Ext X50 X50 := Ext.refl _
  refine cw_plain ?_
  refine pl_take (.agg #[.int .i64 200, .int .i64 0, .int .i64 0, .int .i64 20000, .int .i64 10000, .int .i64 0, .int .i64 1]) rfl (by kernel_rfl) (by kernel_rfl) (by kernel_rfl) (ex_load rfl (by kernel_rfl) (ld24 ((BoxAt.ext hX13 bO1_0).1) ((BoxAt.ext hX13 bO1_1).1) ((BoxAt.ext hX13 bO1_2).1) ((BoxAt.ext hX13 bO1_3).1) ((BoxAt.ext hX13 bO1_4).1) ((BoxAt.ext hX13 bO1_5).1) ((BoxAt.ext hX13 bO1_6).1))) ?_
  refine pl_take (.agg #[.int .i64 10, .int .i64 20]) rfl (by kernel_rfl) (by kernel_rfl) (by kernel_rfl) (ex_load rfl (by kernel_rfl) (ld26 ((BoxAt.ext hX13 bO7_0).1) ((BoxAt.ext hX13 bO7_1).1))) ?_
  refine pS (sn_call (f := 17) (args := #[.agg #[.int .i64 200, .int .i64 0, .int .i64 0, .int .i64 20000, .int .i64 10000, .int .i64 0, .int .i64 1], .agg #[.int .i64 10, .int .i64 20], .int .i64 2]) (by kernel_rfl) ((Strip_y (o := Swath.o0) (s := Swath.s0) (lk := 2) _ (by kernel_rfl)).mono ?_))
  rintro e w62 ⟨B53, g54, k55, k56, rfl, hn57, hn58, hne59, hr60, hr61, hb⟩
  replace hE := hE.trans hb; replace hX13 := hX13.trans hb; replace hX26 := hX26.trans hb; replace hX39 := hX39.trans hb; replace hX52 := hX52.trans hb; have hs63 := hb.size; clear hb; have lt64 := hr60.lt; have lt65 := hr61.lt
  have hne59h := Lib.hid hne59
  refine ⟨_, rfl, ?_⟩
  refine pT (.tuple #[.agg #[.slice (some ⟨B53, 0, none⟩) 24 k55, .slice (some ⟨g54, 0, none⟩) 24 k56], .int .i64 0]) ?_
  refine pT (.agg #[.slice (some ⟨B53, 0, none⟩) 24 k55, .slice (some ⟨g54, 0, none⟩) 24 k56]) ?_
  refine pT (.int .i64 0) ?_
  refine pS (sn_new (us := #[.slice none 0 0, .slice none 0 0]) (t := 44) (by kernel_rfl) ?_)
  intro O66 X67 hO hOs hb hbx
  have hzO66 := hO; have hyO66 := hOs; clear hO hOs
  have bO66_0 : BoxAt X67 O66 0 (.slice none 0 0) := hbx 0 _ rfl
  have bO66_1 : BoxAt X67 O66 1 (.slice none 0 0) := hbx 1 _ rfl
  clear hbx; replace hE := hE.trans hb; replace hX13 := hX13.trans hb; replace hX26 := hX26.trans hb; replace hX39 := hX39.trans hb; replace hX52 := hX52.trans hb; replace hr60 := hr60.ext hb; replace hr61 := hr61.ext hb; have hs68 := hb.size; clear hb; have lt69 := bO66_0.lt
  refine pl_put rfl (by kernel_rfl) (by kernel_rfl) (sn_set2 (O := O66) (j := 0) (v := .slice (some ⟨B53, 0, none⟩) 24 k55) (v' := .slice (some ⟨g54, 0, none⟩) 24 k56) (ex_store (p := .pointer (some ⟨O66, 0, none⟩)) (v := .agg #[.slice (some ⟨B53, 0, none⟩) 24 k55, .slice (some ⟨g54, 0, none⟩) 24 k56]) rfl (by kernel_rfl) (by kernel_rfl) (st44 bO66_0.1 bO66_0.2 bO66_1.1 bO66_1.2)) bO66_0 bO66_1 ?_)
  intro X70 ho hv0 hv1 hk
  replace hE := ho.ext hE (T (T hs3 (T hs6 (T hs9 (T hs12 (T hs18 (T hs22 (T hs25 (T hs31 (T hs35 (T hs38 (T hs44 (T hs48 (T hs51 hs63))))))))))))) (Nat.le_of_eq hzO66)); replace hX13 := ho.ext hX13 (T (T hs18 (T hs22 (T hs25 (T hs31 (T hs35 (T hs38 (T hs44 (T hs48 (T hs51 hs63))))))))) (Nat.le_of_eq hzO66)); replace hX26 := ho.ext hX26 (T (T hs31 (T hs35 (T hs38 (T hs44 (T hs48 (T hs51 hs63)))))) (Nat.le_of_eq hzO66)); replace hX39 := ho.ext hX39 (T (T hs44 (T hs48 (T hs51 hs63))) (Nat.le_of_eq hzO66)); replace hX52 := ho.ext hX52 (T hs63 (Nat.le_of_eq hzO66)); replace hr60 := ho.rows (Nat.ne_of_gt (Nat.lt_of_lt_of_le lt64 (Nat.le_of_eq hzO66))) hr60; replace hr61 := ho.rows (Nat.ne_of_gt (Nat.lt_of_lt_of_le lt65 (Nat.le_of_eq hzO66))) hr61
  have hs71 : X67.heap.size ≤ X70.heap.size := Nat.le_of_eq ho.size.symm
  clear ho hk bO66_0 bO66_1
  have bO66_0 := hv0; clear hv0
  have bO66_1 := hv1; clear hv1
  refine pT (.int .i64 0) ?_
  refine pl_nil ?_; refine qw_then ?_
  refine cw_clean [1, 2, 3, 4, 5, 6, 7, 8, 9, 10] (ws' := [(1, .pointer (some ⟨O1, 0, none⟩)), (2, .pointer (some ⟨O7, 0, none⟩)), (3, .pointer (some ⟨O20, 0, none⟩)), (4, .int .i64 0), (5, .pointer (some ⟨O33, 0, none⟩)), (6, .int .i64 0), (7, .pointer (some ⟨O46, 0, none⟩)), (8, .int .i64 0), (9, .pointer (some ⟨O66, 0, none⟩)), (10, .int .i64 0)]) (by kernel_rfl) (fun L => ?_)
  refine cw_seq ?_
  have hX72 : Ext X70 X70 := Ext.refl _
  refine cw_join (fun ws' Y => ∃ O75 : Nat, ∃ B79 : Nat, ∃ O88 : Nat, ws' = [(1, .pointer (some ⟨O1, 0, none⟩)), (2, .pointer (some ⟨O7, 0, none⟩)), (3, .pointer (some ⟨O20, 0, none⟩)), (4, .int .i64 0), (5, .pointer (some ⟨O33, 0, none⟩)), (6, .int .i64 0), (7, .pointer (some ⟨O46, 0, none⟩)), (8, .int .i64 0), (9, .pointer (some ⟨O66, 0, none⟩)), (10, .int .i64 0), (11, .pointer (some ⟨O88, 0, none⟩)), (12, .int .i64 2), (13, .bool true), (14, .int .i64 0)] ∧ Ext w Y ∧ Ext X11 Y ∧ Ext X24 Y ∧ Ext X37 Y ∧ Ext X50 Y ∧ Ext X70 Y ∧ BoxAt Y O75 0 (.int .i64 5) ∧ RowsAt Y B79 (Swath.stripL 12 [5]) ∧ BoxAt Y O88 0 (.int .i64 17) ∧ BoxAt Y O88 1 (.int .i64 27) ∧ X70.heap.size ≤ Y.heap.size ∧ X70.heap.size ≤ O75 ∧ X70.heap.size ≤ B79 ∧ X70.heap.size ≤ O88 ∧ Hid (O75 ≠ B79) ∧ Hid (O75 ≠ O88) ∧ Hid (B79 ≠ O88)) (fun hJ => ?_) ?_
  ·
    refine cw_draw [(some 53, [1], []), (some 54, [], []), (some 55, [], []), (some 56, [55], [2]), (some 57, [53, 54, 56], [0, 1, 3, 3]), (some 52, [57], [4]), (some 58, [52], [5]), (some 59, [52], [5]), (some 60, [52], [5]), (some 61, [52], [5]), (some 11, [], []), (none, [11, 58], [10, 6, 4, 0, 1, 2, 3, 4, 5, 6, 10]), (some 12, [59], [7, 11, 0, 1, 2, 3, 4, 5, 6, 7, 10, 11]), (some 13, [60], [8, 12, 0, 1, 2, 3, 4, 5, 6, 7, 8, 10, 11, 12]), (some 14, [61], [9, 13, 0, 1, 2, 3, 4, 5, 6, 7, 8, 9, 10, 11, 12, 13])] (fun w' => w'.cell? ⟨O1, 0, none⟩ = some (.int .i64 200) ∧ w'.cell? ⟨O1, 1, none⟩ = some (.int .i64 0) ∧ w'.cell? ⟨O1, 2, none⟩ = some (.int .i64 0) ∧ w'.cell? ⟨O1, 3, none⟩ = some (.int .i64 20000) ∧ w'.cell? ⟨O1, 4, none⟩ = some (.int .i64 10000) ∧ w'.cell? ⟨O1, 5, none⟩ = some (.int .i64 0) ∧ w'.cell? ⟨O1, 6, none⟩ = some (.int .i64 1)) (by kernel_rfl) (by kernel_rfl) (by kernel_rfl) (by kernel_rfl) ((calm_then calm_body)) (⟨(BoxAt.ext hX13 bO1_0).1, (BoxAt.ext hX13 bO1_1).1, (BoxAt.ext hX13 bO1_2).1, (BoxAt.ext hX13 bO1_3).1, (BoxAt.ext hX13 bO1_4).1, (BoxAt.ext hX13 bO1_5).1, (BoxAt.ext hX13 bO1_6).1⟩) (fun ops Q X73 hb hL hR hK => ?_)
    replace hE := hE.trans hb; replace hX13 := hX13.trans hb; replace hX26 := hX26.trans hb; replace hX39 := hX39.trans hb; replace hX52 := hX52.trans hb; replace hX72 := hX72.trans hb; have hs74 := hb.size; clear hb
    refine wd_take 0 (.agg #[.int .i64 200, .int .i64 0, .int .i64 0, .int .i64 20000, .int .i64 10000, .int .i64 0, .int .i64 1]) hR rfl (by kernel_rfl) rfl (by kernel_rfl) (fun w hS => ex_load rfl (by kernel_rfl) (ld24 (hS.1) (hS.2.1) (hS.2.2.1) (hS.2.2.2.1) (hS.2.2.2.2.1) (hS.2.2.2.2.2.1) (hS.2.2.2.2.2.2))) (⟨(BoxAt.ext hX13 bO1_0).1, (BoxAt.ext hX13 bO1_1).1, (BoxAt.ext hX13 bO1_2).1, (BoxAt.ext hX13 bO1_3).1, (BoxAt.ext hX13 bO1_4).1, (BoxAt.ext hX13 bO1_5).1, (BoxAt.ext hX13 bO1_6).1⟩) ?_
    refine wd_take 1 (.agg #[.int .i64 0, .int .i64 60]) hR rfl (by kernel_rfl) rfl (by kernel_rfl) (fun w _ => by kernel_rfl) (⟨(BoxAt.ext hX13 bO1_0).1, (BoxAt.ext hX13 bO1_1).1, (BoxAt.ext hX13 bO1_2).1, (BoxAt.ext hX13 bO1_3).1, (BoxAt.ext hX13 bO1_4).1, (BoxAt.ext hX13 bO1_5).1, (BoxAt.ext hX13 bO1_6).1⟩) ?_
    refine wd_two 2 10 hR rfl rfl (by kernel_rfl) (by kernel_rfl) (by kernel_rfl) (by kernel_rfl) ?_ ?_
    ·
      refine sn_newS (us := #[.int .i64 5]) (t := 3) (k := 1) (c := 1) (by kernel_rfl) ?_
      intro O75 X76 hO hOs hb hbx
      have hzO75 := hO; have hyO75 := hOs; clear hO hOs
      have bO75_0 : BoxAt X76 O75 0 (.int .i64 5) := hbx 0 _ rfl
      clear hbx; replace hE := hE.trans hb; replace hX13 := hX13.trans hb; replace hX26 := hX26.trans hb; replace hX39 := hX39.trans hb; replace hX52 := hX52.trans hb; replace hX72 := hX72.trans hb; have hs77 := hb.size; clear hb; have lt78 := bO75_0.lt
      refine ⟨⟨(BoxAt.ext hX13 bO1_0).1, (BoxAt.ext hX13 bO1_1).1, (BoxAt.ext hX13 bO1_2).1, (BoxAt.ext hX13 bO1_3).1, (BoxAt.ext hX13 bO1_4).1, (BoxAt.ext hX13 bO1_5).1, (BoxAt.ext hX13 bO1_6).1⟩, ?_⟩
      refine wd_two 3 10 hR rfl rfl (by kernel_rfl) (by kernel_rfl) (by kernel_rfl) (by kernel_rfl) ?_ ?_
      ·
        have hI82 : IntsAt X76 (some ⟨O75, 0, none⟩) ((([5] : List Nat)).map fun y => ((y : Nat) : Int)) := (.inr ⟨O75, 0, rfl, fun i hi => by
          match i, hi with
          | 0, _ => exact bO75_0.1
          | _ + 1, hi => exact absurd hi (by simp)⟩)
        refine sn_call (f := 37) (args := #[.int .i64 12, .slice (some ⟨O75, 0, none⟩) 1 1]) (by kernel_rfl) ((strip_c (x := 12) (ys := [5]) _ (by decide) hI82 rfl (by decide) (by decide) (Ext.refl _)).mono ?_)
        rintro e w83 ⟨B79, rfl, hn80, hr81, hb⟩
        replace hE := hE.trans hb; replace hX13 := hX13.trans hb; replace hX26 := hX26.trans hb; replace hX39 := hX39.trans hb; replace hX52 := hX52.trans hb; replace hX72 := hX72.trans hb; replace bO75_0 := BoxAt.ext hb bO75_0; have hs84 := hb.size; clear hb; have lt85 := hr81.lt
        refine ⟨_, rfl, ⟨(BoxAt.ext hX13 bO1_0).1, (BoxAt.ext hX13 bO1_1).1, (BoxAt.ext hX13 bO1_2).1, (BoxAt.ext hX13 bO1_3).1, (BoxAt.ext hX13 bO1_4).1, (BoxAt.ext hX13 bO1_5).1, (BoxAt.ext hX13 bO1_6).1⟩, ?_⟩
        refine wd_two 4 10 hR rfl rfl (by kernel_rfl) (by kernel_rfl) (by kernel_rfl) (by kernel_rfl) ?_ ?_
        ·
          refine sn_call (f := 26) (args := #[.agg #[.int .i64 200, .int .i64 0, .int .i64 0, .int .i64 20000, .int .i64 10000, .int .i64 0, .int .i64 1], .agg #[.int .i64 0, .int .i64 60], .int .i64 10, .int .i64 3, .agg #[.slice (some ⟨B79, 0, none⟩) 24 24]]) (by kernel_rfl) ((Best_r (o := Swath.o0) (sp := Swath.sp0) (mi := 10) (W := 3) (bt := ((17, 27), 2, true)) _ _ (RowsAt.va hr81 (by kernel_rfl)).aa (Ext.refl _) rfl rfl rfl rfl (best_ex3)).mono ?_)
          rintro e w86 ⟨rfl, hb⟩
          replace hE := hE.trans hb; replace hX13 := hX13.trans hb; replace hX26 := hX26.trans hb; replace hX39 := hX39.trans hb; replace hX52 := hX52.trans hb; replace hX72 := hX72.trans hb; replace bO75_0 := BoxAt.ext hb bO75_0; replace hr81 := hr81.ext hb; have hs87 := hb.size; clear hb
          refine ⟨_, rfl, ⟨(BoxAt.ext hX13 bO1_0).1, (BoxAt.ext hX13 bO1_1).1, (BoxAt.ext hX13 bO1_2).1, (BoxAt.ext hX13 bO1_3).1, (BoxAt.ext hX13 bO1_4).1, (BoxAt.ext hX13 bO1_5).1, (BoxAt.ext hX13 bO1_6).1⟩, ?_⟩
          refine wd_take 5 (.tuple #[.agg #[.int .i64 17, .int .i64 27], .int .i64 2, .bool true, .int .i64 0]) hR rfl (by kernel_rfl) rfl (by kernel_rfl) (fun w _ => by kernel_rfl) (⟨(BoxAt.ext hX13 bO1_0).1, (BoxAt.ext hX13 bO1_1).1, (BoxAt.ext hX13 bO1_2).1, (BoxAt.ext hX13 bO1_3).1, (BoxAt.ext hX13 bO1_4).1, (BoxAt.ext hX13 bO1_5).1, (BoxAt.ext hX13 bO1_6).1⟩) ?_
          refine wd_take 6 (.agg #[.int .i64 17, .int .i64 27]) hR rfl (by kernel_rfl) rfl (by kernel_rfl) (fun w _ => by kernel_rfl) (⟨(BoxAt.ext hX13 bO1_0).1, (BoxAt.ext hX13 bO1_1).1, (BoxAt.ext hX13 bO1_2).1, (BoxAt.ext hX13 bO1_3).1, (BoxAt.ext hX13 bO1_4).1, (BoxAt.ext hX13 bO1_5).1, (BoxAt.ext hX13 bO1_6).1⟩) ?_
          refine wd_take 7 (.int .i64 2) hR rfl (by kernel_rfl) rfl (by kernel_rfl) (fun w _ => by kernel_rfl) (⟨(BoxAt.ext hX13 bO1_0).1, (BoxAt.ext hX13 bO1_1).1, (BoxAt.ext hX13 bO1_2).1, (BoxAt.ext hX13 bO1_3).1, (BoxAt.ext hX13 bO1_4).1, (BoxAt.ext hX13 bO1_5).1, (BoxAt.ext hX13 bO1_6).1⟩) ?_
          refine wd_take 8 (.bool true) hR rfl (by kernel_rfl) rfl (by kernel_rfl) (fun w _ => by kernel_rfl) (⟨(BoxAt.ext hX13 bO1_0).1, (BoxAt.ext hX13 bO1_1).1, (BoxAt.ext hX13 bO1_2).1, (BoxAt.ext hX13 bO1_3).1, (BoxAt.ext hX13 bO1_4).1, (BoxAt.ext hX13 bO1_5).1, (BoxAt.ext hX13 bO1_6).1⟩) ?_
          refine wd_take 9 (.int .i64 0) hR rfl (by kernel_rfl) rfl (by kernel_rfl) (fun w _ => by kernel_rfl) (⟨(BoxAt.ext hX13 bO1_0).1, (BoxAt.ext hX13 bO1_1).1, (BoxAt.ext hX13 bO1_2).1, (BoxAt.ext hX13 bO1_3).1, (BoxAt.ext hX13 bO1_4).1, (BoxAt.ext hX13 bO1_5).1, (BoxAt.ext hX13 bO1_6).1⟩) ?_
          refine wd_step 10 hR rfl (by kernel_rfl) (by kernel_rfl) (by kernel_rfl) (sn_new (us := #[.int .i64 0, .int .i64 0]) (t := 26) (by kernel_rfl) ?_)
          intro O88 X89 hO hOs hb hbx
          have hzO88 := hO; have hyO88 := hOs; clear hO hOs
          have bO88_0 : BoxAt X89 O88 0 (.int .i64 0) := hbx 0 _ rfl
          have bO88_1 : BoxAt X89 O88 1 (.int .i64 0) := hbx 1 _ rfl
          clear hbx; replace hE := hE.trans hb; replace hX13 := hX13.trans hb; replace hX26 := hX26.trans hb; replace hX39 := hX39.trans hb; replace hX52 := hX52.trans hb; replace hX72 := hX72.trans hb; replace bO75_0 := BoxAt.ext hb bO75_0; replace hr81 := hr81.ext hb; have hs90 := hb.size; clear hb; have lt91 := bO88_0.lt
          refine ⟨⟨(BoxAt.ext hX13 bO1_0).1, (BoxAt.ext hX13 bO1_1).1, (BoxAt.ext hX13 bO1_2).1, (BoxAt.ext hX13 bO1_3).1, (BoxAt.ext hX13 bO1_4).1, (BoxAt.ext hX13 bO1_5).1, (BoxAt.ext hX13 bO1_6).1⟩, ?_⟩
          refine wd_step 11 hR rfl (by kernel_rfl) (by kernel_rfl) (by kernel_rfl) (sn_set2 (O := O88) (j := 0) (v := .int .i64 17) (v' := .int .i64 27) (ex_store (p := .pointer (some ⟨O88, 0, none⟩)) (v := .agg #[.int .i64 17, .int .i64 27]) rfl (by kernel_rfl) (by kernel_rfl) (st26 bO88_0.1 bO88_0.2 bO88_1.1 bO88_1.2)) bO88_0 bO88_1 ?_)
          intro X92 ho hv0 hv1 hk
          replace hE := ho.ext hE (T (T hs3 (T hs6 (T hs9 (T hs12 (T hs18 (T hs22 (T hs25 (T hs31 (T hs35 (T hs38 (T hs44 (T hs48 (T hs51 (T hs63 (T hs68 (T hs71 (T hs74 (T hs77 (T hs84 hs87))))))))))))))))))) (Nat.le_of_eq hzO88)); replace hX13 := ho.ext hX13 (T (T hs18 (T hs22 (T hs25 (T hs31 (T hs35 (T hs38 (T hs44 (T hs48 (T hs51 (T hs63 (T hs68 (T hs71 (T hs74 (T hs77 (T hs84 hs87))))))))))))))) (Nat.le_of_eq hzO88)); replace hX26 := ho.ext hX26 (T (T hs31 (T hs35 (T hs38 (T hs44 (T hs48 (T hs51 (T hs63 (T hs68 (T hs71 (T hs74 (T hs77 (T hs84 hs87)))))))))))) (Nat.le_of_eq hzO88)); replace hX39 := ho.ext hX39 (T (T hs44 (T hs48 (T hs51 (T hs63 (T hs68 (T hs71 (T hs74 (T hs77 (T hs84 hs87))))))))) (Nat.le_of_eq hzO88)); replace hX52 := ho.ext hX52 (T (T hs63 (T hs68 (T hs71 (T hs74 (T hs77 (T hs84 hs87)))))) (Nat.le_of_eq hzO88)); replace hX72 := ho.ext hX72 (T (T hs74 (T hs77 (T hs84 hs87))) (Nat.le_of_eq hzO88)); replace bO75_0 := ho.box (Nat.ne_of_gt (Nat.lt_of_lt_of_le lt78 (T (T hs84 hs87) (Nat.le_of_eq hzO88)))) bO75_0; replace hr81 := ho.rows (Nat.ne_of_gt (Nat.lt_of_lt_of_le lt85 (T hs87 (Nat.le_of_eq hzO88)))) hr81
          have hs93 : X89.heap.size ≤ X92.heap.size := Nat.le_of_eq ho.size.symm
          clear ho hk bO88_0 bO88_1
          have bO88_0 := hv0; clear hv0
          have bO88_1 := hv1; clear hv1
          refine ⟨⟨(BoxAt.ext hX13 bO1_0).1, (BoxAt.ext hX13 bO1_1).1, (BoxAt.ext hX13 bO1_2).1, (BoxAt.ext hX13 bO1_3).1, (BoxAt.ext hX13 bO1_4).1, (BoxAt.ext hX13 bO1_5).1, (BoxAt.ext hX13 bO1_6).1⟩, ?_⟩
          refine wd_take 12 (.int .i64 2) hR rfl (by kernel_rfl) rfl (by kernel_rfl) (fun w _ => by kernel_rfl) (⟨(BoxAt.ext hX13 bO1_0).1, (BoxAt.ext hX13 bO1_1).1, (BoxAt.ext hX13 bO1_2).1, (BoxAt.ext hX13 bO1_3).1, (BoxAt.ext hX13 bO1_4).1, (BoxAt.ext hX13 bO1_5).1, (BoxAt.ext hX13 bO1_6).1⟩) ?_
          refine wd_take 13 (.bool true) hR rfl (by kernel_rfl) rfl (by kernel_rfl) (fun w _ => by kernel_rfl) (⟨(BoxAt.ext hX13 bO1_0).1, (BoxAt.ext hX13 bO1_1).1, (BoxAt.ext hX13 bO1_2).1, (BoxAt.ext hX13 bO1_3).1, (BoxAt.ext hX13 bO1_4).1, (BoxAt.ext hX13 bO1_5).1, (BoxAt.ext hX13 bO1_6).1⟩) ?_
          refine wd_take 14 (.int .i64 0) hR rfl (by kernel_rfl) rfl (by kernel_rfl) (fun w _ => by kernel_rfl) (⟨(BoxAt.ext hX13 bO1_0).1, (BoxAt.ext hX13 bO1_1).1, (BoxAt.ext hX13 bO1_2).1, (BoxAt.ext hX13 bO1_3).1, (BoxAt.ext hX13 bO1_4).1, (BoxAt.ext hX13 bO1_5).1, (BoxAt.ext hX13 bO1_6).1⟩) ?_
          refine wd_end hL hR hK (by kernel_rfl) ?_
          exact qw_leaf hJ [1, 2, 3, 4, 5, 6, 7, 8, 9, 10, 11, 12, 13, 14] (ws' := [(1, .pointer (some ⟨O1, 0, none⟩)), (2, .pointer (some ⟨O7, 0, none⟩)), (3, .pointer (some ⟨O20, 0, none⟩)), (4, .int .i64 0), (5, .pointer (some ⟨O33, 0, none⟩)), (6, .int .i64 0), (7, .pointer (some ⟨O46, 0, none⟩)), (8, .int .i64 0), (9, .pointer (some ⟨O66, 0, none⟩)), (10, .int .i64 0), (11, .pointer (some ⟨O88, 0, none⟩)), (12, .int .i64 2), (13, .bool true), (14, .int .i64 0)]) (by kernel_rfl) ⟨O75, B79, O88, rfl, hE, hX13, hX26, hX39, hX52, hX72, bO75_0, hr81, bO88_0, bO88_1, (T hs74 (T hs77 (T hs84 (T hs87 (T hs90 hs93))))), (T hs74 (Nat.le_of_eq hzO75)), (T (T hs74 hs77) hn80), (T (T hs74 (T hs77 (T hs84 hs87))) (Nat.le_of_eq hzO88)), Lib.hid (Nat.ne_of_lt (Nat.lt_of_lt_of_le lt78 hn80)), Lib.hid (Nat.ne_of_lt (Nat.lt_of_lt_of_le lt78 (T (T hs84 hs87) (Nat.le_of_eq hzO88)))), Lib.hid (Nat.ne_of_lt (Nat.lt_of_lt_of_le lt85 (T hs87 (Nat.le_of_eq hzO88))))⟩
        ·
          refine sn_new (us := #[.int .i64 0, .int .i64 0]) (t := 26) (by kernel_rfl) ?_
          intro O94 X95 hO hOs hb hbx
          have hzO94 := hO; have hyO94 := hOs; clear hO hOs
          have bO94_0 : BoxAt X95 O94 0 (.int .i64 0) := hbx 0 _ rfl
          have bO94_1 : BoxAt X95 O94 1 (.int .i64 0) := hbx 1 _ rfl
          clear hbx; replace hE := hE.trans hb; replace hX13 := hX13.trans hb; replace hX26 := hX26.trans hb; replace hX39 := hX39.trans hb; replace hX52 := hX52.trans hb; replace hX72 := hX72.trans hb; replace bO75_0 := BoxAt.ext hb bO75_0; replace hr81 := hr81.ext hb; have hs96 := hb.size; clear hb; have lt97 := bO94_0.lt
          refine ⟨⟨(BoxAt.ext hX13 bO1_0).1, (BoxAt.ext hX13 bO1_1).1, (BoxAt.ext hX13 bO1_2).1, (BoxAt.ext hX13 bO1_3).1, (BoxAt.ext hX13 bO1_4).1, (BoxAt.ext hX13 bO1_5).1, (BoxAt.ext hX13 bO1_6).1⟩, ?_⟩
          refine wd_step 4 hR rfl (by kernel_rfl) (by kernel_rfl) (by kernel_rfl) (sn_call (f := 26) (args := #[.agg #[.int .i64 200, .int .i64 0, .int .i64 0, .int .i64 20000, .int .i64 10000, .int .i64 0, .int .i64 1], .agg #[.int .i64 0, .int .i64 60], .int .i64 10, .int .i64 3, .agg #[.slice (some ⟨B79, 0, none⟩) 24 24]]) (by kernel_rfl) ((Best_r (o := Swath.o0) (sp := Swath.sp0) (mi := 10) (W := 3) (bt := ((17, 27), 2, true)) _ _ (RowsAt.va hr81 (by kernel_rfl)).aa (Ext.refl _) rfl rfl rfl rfl (best_ex3)).mono ?_))
          rintro e w98 ⟨rfl, hb⟩
          replace hE := hE.trans hb; replace hX13 := hX13.trans hb; replace hX26 := hX26.trans hb; replace hX39 := hX39.trans hb; replace hX52 := hX52.trans hb; replace hX72 := hX72.trans hb; replace bO75_0 := BoxAt.ext hb bO75_0; replace hr81 := hr81.ext hb; replace bO94_0 := BoxAt.ext hb bO94_0; replace bO94_1 := BoxAt.ext hb bO94_1; have hs99 := hb.size; clear hb
          refine ⟨_, rfl, ⟨(BoxAt.ext hX13 bO1_0).1, (BoxAt.ext hX13 bO1_1).1, (BoxAt.ext hX13 bO1_2).1, (BoxAt.ext hX13 bO1_3).1, (BoxAt.ext hX13 bO1_4).1, (BoxAt.ext hX13 bO1_5).1, (BoxAt.ext hX13 bO1_6).1⟩, ?_⟩
          refine wd_take 5 (.tuple #[.agg #[.int .i64 17, .int .i64 27], .int .i64 2, .bool true, .int .i64 0]) hR rfl (by kernel_rfl) rfl (by kernel_rfl) (fun w _ => by kernel_rfl) (⟨(BoxAt.ext hX13 bO1_0).1, (BoxAt.ext hX13 bO1_1).1, (BoxAt.ext hX13 bO1_2).1, (BoxAt.ext hX13 bO1_3).1, (BoxAt.ext hX13 bO1_4).1, (BoxAt.ext hX13 bO1_5).1, (BoxAt.ext hX13 bO1_6).1⟩) ?_
          refine wd_take 6 (.agg #[.int .i64 17, .int .i64 27]) hR rfl (by kernel_rfl) rfl (by kernel_rfl) (fun w _ => by kernel_rfl) (⟨(BoxAt.ext hX13 bO1_0).1, (BoxAt.ext hX13 bO1_1).1, (BoxAt.ext hX13 bO1_2).1, (BoxAt.ext hX13 bO1_3).1, (BoxAt.ext hX13 bO1_4).1, (BoxAt.ext hX13 bO1_5).1, (BoxAt.ext hX13 bO1_6).1⟩) ?_
          refine wd_take 7 (.int .i64 2) hR rfl (by kernel_rfl) rfl (by kernel_rfl) (fun w _ => by kernel_rfl) (⟨(BoxAt.ext hX13 bO1_0).1, (BoxAt.ext hX13 bO1_1).1, (BoxAt.ext hX13 bO1_2).1, (BoxAt.ext hX13 bO1_3).1, (BoxAt.ext hX13 bO1_4).1, (BoxAt.ext hX13 bO1_5).1, (BoxAt.ext hX13 bO1_6).1⟩) ?_
          refine wd_take 8 (.bool true) hR rfl (by kernel_rfl) rfl (by kernel_rfl) (fun w _ => by kernel_rfl) (⟨(BoxAt.ext hX13 bO1_0).1, (BoxAt.ext hX13 bO1_1).1, (BoxAt.ext hX13 bO1_2).1, (BoxAt.ext hX13 bO1_3).1, (BoxAt.ext hX13 bO1_4).1, (BoxAt.ext hX13 bO1_5).1, (BoxAt.ext hX13 bO1_6).1⟩) ?_
          refine wd_take 9 (.int .i64 0) hR rfl (by kernel_rfl) rfl (by kernel_rfl) (fun w _ => by kernel_rfl) (⟨(BoxAt.ext hX13 bO1_0).1, (BoxAt.ext hX13 bO1_1).1, (BoxAt.ext hX13 bO1_2).1, (BoxAt.ext hX13 bO1_3).1, (BoxAt.ext hX13 bO1_4).1, (BoxAt.ext hX13 bO1_5).1, (BoxAt.ext hX13 bO1_6).1⟩) ?_
          refine wd_step 11 hR rfl (by kernel_rfl) (by kernel_rfl) (by kernel_rfl) (sn_set2 (O := O94) (j := 0) (v := .int .i64 17) (v' := .int .i64 27) (ex_store (p := .pointer (some ⟨O94, 0, none⟩)) (v := .agg #[.int .i64 17, .int .i64 27]) rfl (by kernel_rfl) (by kernel_rfl) (st26 bO94_0.1 bO94_0.2 bO94_1.1 bO94_1.2)) bO94_0 bO94_1 ?_)
          intro X100 ho hv0 hv1 hk
          replace hE := ho.ext hE (T (T hs3 (T hs6 (T hs9 (T hs12 (T hs18 (T hs22 (T hs25 (T hs31 (T hs35 (T hs38 (T hs44 (T hs48 (T hs51 (T hs63 (T hs68 (T hs71 (T hs74 (T hs77 hs84)))))))))))))))))) (Nat.le_of_eq hzO94)); replace hX13 := ho.ext hX13 (T (T hs18 (T hs22 (T hs25 (T hs31 (T hs35 (T hs38 (T hs44 (T hs48 (T hs51 (T hs63 (T hs68 (T hs71 (T hs74 (T hs77 hs84)))))))))))))) (Nat.le_of_eq hzO94)); replace hX26 := ho.ext hX26 (T (T hs31 (T hs35 (T hs38 (T hs44 (T hs48 (T hs51 (T hs63 (T hs68 (T hs71 (T hs74 (T hs77 hs84))))))))))) (Nat.le_of_eq hzO94)); replace hX39 := ho.ext hX39 (T (T hs44 (T hs48 (T hs51 (T hs63 (T hs68 (T hs71 (T hs74 (T hs77 hs84)))))))) (Nat.le_of_eq hzO94)); replace hX52 := ho.ext hX52 (T (T hs63 (T hs68 (T hs71 (T hs74 (T hs77 hs84))))) (Nat.le_of_eq hzO94)); replace hX72 := ho.ext hX72 (T (T hs74 (T hs77 hs84)) (Nat.le_of_eq hzO94)); replace bO75_0 := ho.box (Nat.ne_of_gt (Nat.lt_of_lt_of_le lt78 (T hs84 (Nat.le_of_eq hzO94)))) bO75_0; replace hr81 := ho.rows (Nat.ne_of_gt (Nat.lt_of_lt_of_le lt85 (Nat.le_of_eq hzO94))) hr81
          have hs101 : w98.heap.size ≤ X100.heap.size := Nat.le_of_eq ho.size.symm
          clear ho hk bO94_0 bO94_1
          have bO94_0 := hv0; clear hv0
          have bO94_1 := hv1; clear hv1
          refine ⟨⟨(BoxAt.ext hX13 bO1_0).1, (BoxAt.ext hX13 bO1_1).1, (BoxAt.ext hX13 bO1_2).1, (BoxAt.ext hX13 bO1_3).1, (BoxAt.ext hX13 bO1_4).1, (BoxAt.ext hX13 bO1_5).1, (BoxAt.ext hX13 bO1_6).1⟩, ?_⟩
          refine wd_take 12 (.int .i64 2) hR rfl (by kernel_rfl) rfl (by kernel_rfl) (fun w _ => by kernel_rfl) (⟨(BoxAt.ext hX13 bO1_0).1, (BoxAt.ext hX13 bO1_1).1, (BoxAt.ext hX13 bO1_2).1, (BoxAt.ext hX13 bO1_3).1, (BoxAt.ext hX13 bO1_4).1, (BoxAt.ext hX13 bO1_5).1, (BoxAt.ext hX13 bO1_6).1⟩) ?_
          refine wd_take 13 (.bool true) hR rfl (by kernel_rfl) rfl (by kernel_rfl) (fun w _ => by kernel_rfl) (⟨(BoxAt.ext hX13 bO1_0).1, (BoxAt.ext hX13 bO1_1).1, (BoxAt.ext hX13 bO1_2).1, (BoxAt.ext hX13 bO1_3).1, (BoxAt.ext hX13 bO1_4).1, (BoxAt.ext hX13 bO1_5).1, (BoxAt.ext hX13 bO1_6).1⟩) ?_
          refine wd_take 14 (.int .i64 0) hR rfl (by kernel_rfl) rfl (by kernel_rfl) (fun w _ => by kernel_rfl) (⟨(BoxAt.ext hX13 bO1_0).1, (BoxAt.ext hX13 bO1_1).1, (BoxAt.ext hX13 bO1_2).1, (BoxAt.ext hX13 bO1_3).1, (BoxAt.ext hX13 bO1_4).1, (BoxAt.ext hX13 bO1_5).1, (BoxAt.ext hX13 bO1_6).1⟩) ?_
          refine wd_end hL hR hK (by kernel_rfl) ?_
          exact qw_leaf hJ [1, 2, 3, 4, 5, 6, 7, 8, 9, 10, 11, 12, 13, 14] (ws' := [(1, .pointer (some ⟨O1, 0, none⟩)), (2, .pointer (some ⟨O7, 0, none⟩)), (3, .pointer (some ⟨O20, 0, none⟩)), (4, .int .i64 0), (5, .pointer (some ⟨O33, 0, none⟩)), (6, .int .i64 0), (7, .pointer (some ⟨O46, 0, none⟩)), (8, .int .i64 0), (9, .pointer (some ⟨O66, 0, none⟩)), (10, .int .i64 0), (11, .pointer (some ⟨O94, 0, none⟩)), (12, .int .i64 2), (13, .bool true), (14, .int .i64 0)]) (by kernel_rfl) ⟨O75, B79, O94, rfl, hE, hX13, hX26, hX39, hX52, hX72, bO75_0, hr81, bO94_0, bO94_1, (T hs74 (T hs77 (T hs84 (T hs96 (T hs99 hs101))))), (T hs74 (Nat.le_of_eq hzO75)), (T (T hs74 hs77) hn80), (T (T hs74 (T hs77 hs84)) (Nat.le_of_eq hzO94)), Lib.hid (Nat.ne_of_lt (Nat.lt_of_lt_of_le lt78 hn80)), Lib.hid (Nat.ne_of_lt (Nat.lt_of_lt_of_le lt78 (T hs84 (Nat.le_of_eq hzO94)))), Lib.hid (Nat.ne_of_lt (Nat.lt_of_lt_of_le lt85 (Nat.le_of_eq hzO94)))⟩
      ·
        refine sn_new (us := #[.int .i64 0, .int .i64 0]) (t := 26) (by kernel_rfl) ?_
        intro O102 X103 hO hOs hb hbx
        have hzO102 := hO; have hyO102 := hOs; clear hO hOs
        have bO102_0 : BoxAt X103 O102 0 (.int .i64 0) := hbx 0 _ rfl
        have bO102_1 : BoxAt X103 O102 1 (.int .i64 0) := hbx 1 _ rfl
        clear hbx; replace hE := hE.trans hb; replace hX13 := hX13.trans hb; replace hX26 := hX26.trans hb; replace hX39 := hX39.trans hb; replace hX52 := hX52.trans hb; replace hX72 := hX72.trans hb; replace bO75_0 := BoxAt.ext hb bO75_0; have hs104 := hb.size; clear hb; have lt105 := bO102_0.lt
        refine ⟨⟨(BoxAt.ext hX13 bO1_0).1, (BoxAt.ext hX13 bO1_1).1, (BoxAt.ext hX13 bO1_2).1, (BoxAt.ext hX13 bO1_3).1, (BoxAt.ext hX13 bO1_4).1, (BoxAt.ext hX13 bO1_5).1, (BoxAt.ext hX13 bO1_6).1⟩, ?_⟩
        have hI109 : IntsAt X103 (some ⟨O75, 0, none⟩) ((([5] : List Nat)).map fun y => ((y : Nat) : Int)) := (.inr ⟨O75, 0, rfl, fun i hi => by
          match i, hi with
          | 0, _ => exact bO75_0.1
          | _ + 1, hi => exact absurd hi (by simp)⟩)
        refine wd_step 3 hR rfl (by kernel_rfl) (by kernel_rfl) (by kernel_rfl) (sn_call (f := 37) (args := #[.int .i64 12, .slice (some ⟨O75, 0, none⟩) 1 1]) (by kernel_rfl) ((strip_c (x := 12) (ys := [5]) _ (by decide) hI109 rfl (by decide) (by decide) (Ext.refl _)).mono ?_))
        rintro e w110 ⟨B106, rfl, hn107, hr108, hb⟩
        replace hE := hE.trans hb; replace hX13 := hX13.trans hb; replace hX26 := hX26.trans hb; replace hX39 := hX39.trans hb; replace hX52 := hX52.trans hb; replace hX72 := hX72.trans hb; replace bO75_0 := BoxAt.ext hb bO75_0; replace bO102_0 := BoxAt.ext hb bO102_0; replace bO102_1 := BoxAt.ext hb bO102_1; have hs111 := hb.size; clear hb; have lt112 := hr108.lt
        refine ⟨_, rfl, ⟨(BoxAt.ext hX13 bO1_0).1, (BoxAt.ext hX13 bO1_1).1, (BoxAt.ext hX13 bO1_2).1, (BoxAt.ext hX13 bO1_3).1, (BoxAt.ext hX13 bO1_4).1, (BoxAt.ext hX13 bO1_5).1, (BoxAt.ext hX13 bO1_6).1⟩, ?_⟩
        refine wd_step 4 hR rfl (by kernel_rfl) (by kernel_rfl) (by kernel_rfl) (sn_call (f := 26) (args := #[.agg #[.int .i64 200, .int .i64 0, .int .i64 0, .int .i64 20000, .int .i64 10000, .int .i64 0, .int .i64 1], .agg #[.int .i64 0, .int .i64 60], .int .i64 10, .int .i64 3, .agg #[.slice (some ⟨B106, 0, none⟩) 24 24]]) (by kernel_rfl) ((Best_r (o := Swath.o0) (sp := Swath.sp0) (mi := 10) (W := 3) (bt := ((17, 27), 2, true)) _ _ (RowsAt.va hr108 (by kernel_rfl)).aa (Ext.refl _) rfl rfl rfl rfl (best_ex3)).mono ?_))
        rintro e w113 ⟨rfl, hb⟩
        replace hE := hE.trans hb; replace hX13 := hX13.trans hb; replace hX26 := hX26.trans hb; replace hX39 := hX39.trans hb; replace hX52 := hX52.trans hb; replace hX72 := hX72.trans hb; replace bO75_0 := BoxAt.ext hb bO75_0; replace bO102_0 := BoxAt.ext hb bO102_0; replace bO102_1 := BoxAt.ext hb bO102_1; replace hr108 := hr108.ext hb; have hs114 := hb.size; clear hb
        refine ⟨_, rfl, ⟨(BoxAt.ext hX13 bO1_0).1, (BoxAt.ext hX13 bO1_1).1, (BoxAt.ext hX13 bO1_2).1, (BoxAt.ext hX13 bO1_3).1, (BoxAt.ext hX13 bO1_4).1, (BoxAt.ext hX13 bO1_5).1, (BoxAt.ext hX13 bO1_6).1⟩, ?_⟩
        refine wd_take 5 (.tuple #[.agg #[.int .i64 17, .int .i64 27], .int .i64 2, .bool true, .int .i64 0]) hR rfl (by kernel_rfl) rfl (by kernel_rfl) (fun w _ => by kernel_rfl) (⟨(BoxAt.ext hX13 bO1_0).1, (BoxAt.ext hX13 bO1_1).1, (BoxAt.ext hX13 bO1_2).1, (BoxAt.ext hX13 bO1_3).1, (BoxAt.ext hX13 bO1_4).1, (BoxAt.ext hX13 bO1_5).1, (BoxAt.ext hX13 bO1_6).1⟩) ?_
        refine wd_take 6 (.agg #[.int .i64 17, .int .i64 27]) hR rfl (by kernel_rfl) rfl (by kernel_rfl) (fun w _ => by kernel_rfl) (⟨(BoxAt.ext hX13 bO1_0).1, (BoxAt.ext hX13 bO1_1).1, (BoxAt.ext hX13 bO1_2).1, (BoxAt.ext hX13 bO1_3).1, (BoxAt.ext hX13 bO1_4).1, (BoxAt.ext hX13 bO1_5).1, (BoxAt.ext hX13 bO1_6).1⟩) ?_
        refine wd_take 7 (.int .i64 2) hR rfl (by kernel_rfl) rfl (by kernel_rfl) (fun w _ => by kernel_rfl) (⟨(BoxAt.ext hX13 bO1_0).1, (BoxAt.ext hX13 bO1_1).1, (BoxAt.ext hX13 bO1_2).1, (BoxAt.ext hX13 bO1_3).1, (BoxAt.ext hX13 bO1_4).1, (BoxAt.ext hX13 bO1_5).1, (BoxAt.ext hX13 bO1_6).1⟩) ?_
        refine wd_take 8 (.bool true) hR rfl (by kernel_rfl) rfl (by kernel_rfl) (fun w _ => by kernel_rfl) (⟨(BoxAt.ext hX13 bO1_0).1, (BoxAt.ext hX13 bO1_1).1, (BoxAt.ext hX13 bO1_2).1, (BoxAt.ext hX13 bO1_3).1, (BoxAt.ext hX13 bO1_4).1, (BoxAt.ext hX13 bO1_5).1, (BoxAt.ext hX13 bO1_6).1⟩) ?_
        refine wd_take 9 (.int .i64 0) hR rfl (by kernel_rfl) rfl (by kernel_rfl) (fun w _ => by kernel_rfl) (⟨(BoxAt.ext hX13 bO1_0).1, (BoxAt.ext hX13 bO1_1).1, (BoxAt.ext hX13 bO1_2).1, (BoxAt.ext hX13 bO1_3).1, (BoxAt.ext hX13 bO1_4).1, (BoxAt.ext hX13 bO1_5).1, (BoxAt.ext hX13 bO1_6).1⟩) ?_
        refine wd_step 11 hR rfl (by kernel_rfl) (by kernel_rfl) (by kernel_rfl) (sn_set2 (O := O102) (j := 0) (v := .int .i64 17) (v' := .int .i64 27) (ex_store (p := .pointer (some ⟨O102, 0, none⟩)) (v := .agg #[.int .i64 17, .int .i64 27]) rfl (by kernel_rfl) (by kernel_rfl) (st26 bO102_0.1 bO102_0.2 bO102_1.1 bO102_1.2)) bO102_0 bO102_1 ?_)
        intro X115 ho hv0 hv1 hk
        replace hE := ho.ext hE (T (T hs3 (T hs6 (T hs9 (T hs12 (T hs18 (T hs22 (T hs25 (T hs31 (T hs35 (T hs38 (T hs44 (T hs48 (T hs51 (T hs63 (T hs68 (T hs71 (T hs74 hs77))))))))))))))))) (Nat.le_of_eq hzO102)); replace hX13 := ho.ext hX13 (T (T hs18 (T hs22 (T hs25 (T hs31 (T hs35 (T hs38 (T hs44 (T hs48 (T hs51 (T hs63 (T hs68 (T hs71 (T hs74 hs77))))))))))))) (Nat.le_of_eq hzO102)); replace hX26 := ho.ext hX26 (T (T hs31 (T hs35 (T hs38 (T hs44 (T hs48 (T hs51 (T hs63 (T hs68 (T hs71 (T hs74 hs77)))))))))) (Nat.le_of_eq hzO102)); replace hX39 := ho.ext hX39 (T (T hs44 (T hs48 (T hs51 (T hs63 (T hs68 (T hs71 (T hs74 hs77))))))) (Nat.le_of_eq hzO102)); replace hX52 := ho.ext hX52 (T (T hs63 (T hs68 (T hs71 (T hs74 hs77)))) (Nat.le_of_eq hzO102)); replace hX72 := ho.ext hX72 (T (T hs74 hs77) (Nat.le_of_eq hzO102)); replace bO75_0 := ho.box (Nat.ne_of_gt (Nat.lt_of_lt_of_le lt78 (Nat.le_of_eq hzO102))) bO75_0; replace hr108 := ho.rows (Nat.ne_of_lt (Nat.lt_of_lt_of_le lt105 hn107)) hr108
        have hs116 : w113.heap.size ≤ X115.heap.size := Nat.le_of_eq ho.size.symm
        clear ho hk bO102_0 bO102_1
        have bO102_0 := hv0; clear hv0
        have bO102_1 := hv1; clear hv1
        refine ⟨⟨(BoxAt.ext hX13 bO1_0).1, (BoxAt.ext hX13 bO1_1).1, (BoxAt.ext hX13 bO1_2).1, (BoxAt.ext hX13 bO1_3).1, (BoxAt.ext hX13 bO1_4).1, (BoxAt.ext hX13 bO1_5).1, (BoxAt.ext hX13 bO1_6).1⟩, ?_⟩
        refine wd_take 12 (.int .i64 2) hR rfl (by kernel_rfl) rfl (by kernel_rfl) (fun w _ => by kernel_rfl) (⟨(BoxAt.ext hX13 bO1_0).1, (BoxAt.ext hX13 bO1_1).1, (BoxAt.ext hX13 bO1_2).1, (BoxAt.ext hX13 bO1_3).1, (BoxAt.ext hX13 bO1_4).1, (BoxAt.ext hX13 bO1_5).1, (BoxAt.ext hX13 bO1_6).1⟩) ?_
        refine wd_take 13 (.bool true) hR rfl (by kernel_rfl) rfl (by kernel_rfl) (fun w _ => by kernel_rfl) (⟨(BoxAt.ext hX13 bO1_0).1, (BoxAt.ext hX13 bO1_1).1, (BoxAt.ext hX13 bO1_2).1, (BoxAt.ext hX13 bO1_3).1, (BoxAt.ext hX13 bO1_4).1, (BoxAt.ext hX13 bO1_5).1, (BoxAt.ext hX13 bO1_6).1⟩) ?_
        refine wd_take 14 (.int .i64 0) hR rfl (by kernel_rfl) rfl (by kernel_rfl) (fun w _ => by kernel_rfl) (⟨(BoxAt.ext hX13 bO1_0).1, (BoxAt.ext hX13 bO1_1).1, (BoxAt.ext hX13 bO1_2).1, (BoxAt.ext hX13 bO1_3).1, (BoxAt.ext hX13 bO1_4).1, (BoxAt.ext hX13 bO1_5).1, (BoxAt.ext hX13 bO1_6).1⟩) ?_
        refine wd_end hL hR hK (by kernel_rfl) ?_
        exact qw_leaf hJ [1, 2, 3, 4, 5, 6, 7, 8, 9, 10, 11, 12, 13, 14] (ws' := [(1, .pointer (some ⟨O1, 0, none⟩)), (2, .pointer (some ⟨O7, 0, none⟩)), (3, .pointer (some ⟨O20, 0, none⟩)), (4, .int .i64 0), (5, .pointer (some ⟨O33, 0, none⟩)), (6, .int .i64 0), (7, .pointer (some ⟨O46, 0, none⟩)), (8, .int .i64 0), (9, .pointer (some ⟨O66, 0, none⟩)), (10, .int .i64 0), (11, .pointer (some ⟨O102, 0, none⟩)), (12, .int .i64 2), (13, .bool true), (14, .int .i64 0)]) (by kernel_rfl) ⟨O75, B106, O102, rfl, hE, hX13, hX26, hX39, hX52, hX72, bO75_0, hr108, bO102_0, bO102_1, (T hs74 (T hs77 (T hs104 (T hs111 (T hs114 hs116))))), (T hs74 (Nat.le_of_eq hzO75)), (T (T hs74 (T hs77 hs104)) hn107), (T (T hs74 hs77) (Nat.le_of_eq hzO102)), Lib.hid (Nat.ne_of_lt (Nat.lt_of_lt_of_le lt78 (T hs104 hn107))), Lib.hid (Nat.ne_of_lt (Nat.lt_of_lt_of_le lt78 (Nat.le_of_eq hzO102))), Lib.hid (Nat.ne_of_gt (Nat.lt_of_lt_of_le lt105 hn107))⟩
    ·
      refine sn_new (us := #[.int .i64 0, .int .i64 0]) (t := 26) (by kernel_rfl) ?_
      intro O117 X118 hO hOs hb hbx
      have hzO117 := hO; have hyO117 := hOs; clear hO hOs
      have bO117_0 : BoxAt X118 O117 0 (.int .i64 0) := hbx 0 _ rfl
      have bO117_1 : BoxAt X118 O117 1 (.int .i64 0) := hbx 1 _ rfl
      clear hbx; replace hE := hE.trans hb; replace hX13 := hX13.trans hb; replace hX26 := hX26.trans hb; replace hX39 := hX39.trans hb; replace hX52 := hX52.trans hb; replace hX72 := hX72.trans hb; have hs119 := hb.size; clear hb; have lt120 := bO117_0.lt
      refine ⟨⟨(BoxAt.ext hX13 bO1_0).1, (BoxAt.ext hX13 bO1_1).1, (BoxAt.ext hX13 bO1_2).1, (BoxAt.ext hX13 bO1_3).1, (BoxAt.ext hX13 bO1_4).1, (BoxAt.ext hX13 bO1_5).1, (BoxAt.ext hX13 bO1_6).1⟩, ?_⟩
      refine wd_step 2 hR rfl (by kernel_rfl) (by kernel_rfl) (by kernel_rfl) (sn_newS (us := #[.int .i64 5]) (t := 3) (k := 1) (c := 1) (by kernel_rfl) ?_)
      intro O121 X122 hO hOs hb hbx
      have hzO121 := hO; have hyO121 := hOs; clear hO hOs
      have bO121_0 : BoxAt X122 O121 0 (.int .i64 5) := hbx 0 _ rfl
      clear hbx; replace hE := hE.trans hb; replace hX13 := hX13.trans hb; replace hX26 := hX26.trans hb; replace hX39 := hX39.trans hb; replace hX52 := hX52.trans hb; replace hX72 := hX72.trans hb; replace bO117_0 := BoxAt.ext hb bO117_0; replace bO117_1 := BoxAt.ext hb bO117_1; have hs123 := hb.size; clear hb; have lt124 := bO121_0.lt
      refine ⟨⟨(BoxAt.ext hX13 bO1_0).1, (BoxAt.ext hX13 bO1_1).1, (BoxAt.ext hX13 bO1_2).1, (BoxAt.ext hX13 bO1_3).1, (BoxAt.ext hX13 bO1_4).1, (BoxAt.ext hX13 bO1_5).1, (BoxAt.ext hX13 bO1_6).1⟩, ?_⟩
      have hI128 : IntsAt X122 (some ⟨O121, 0, none⟩) ((([5] : List Nat)).map fun y => ((y : Nat) : Int)) := (.inr ⟨O121, 0, rfl, fun i hi => by
        match i, hi with
        | 0, _ => exact bO121_0.1
        | _ + 1, hi => exact absurd hi (by simp)⟩)
      refine wd_step 3 hR rfl (by kernel_rfl) (by kernel_rfl) (by kernel_rfl) (sn_call (f := 37) (args := #[.int .i64 12, .slice (some ⟨O121, 0, none⟩) 1 1]) (by kernel_rfl) ((strip_c (x := 12) (ys := [5]) _ (by decide) hI128 rfl (by decide) (by decide) (Ext.refl _)).mono ?_))
      rintro e w129 ⟨B125, rfl, hn126, hr127, hb⟩
      replace hE := hE.trans hb; replace hX13 := hX13.trans hb; replace hX26 := hX26.trans hb; replace hX39 := hX39.trans hb; replace hX52 := hX52.trans hb; replace hX72 := hX72.trans hb; replace bO117_0 := BoxAt.ext hb bO117_0; replace bO117_1 := BoxAt.ext hb bO117_1; replace bO121_0 := BoxAt.ext hb bO121_0; have hs130 := hb.size; clear hb; have lt131 := hr127.lt
      refine ⟨_, rfl, ⟨(BoxAt.ext hX13 bO1_0).1, (BoxAt.ext hX13 bO1_1).1, (BoxAt.ext hX13 bO1_2).1, (BoxAt.ext hX13 bO1_3).1, (BoxAt.ext hX13 bO1_4).1, (BoxAt.ext hX13 bO1_5).1, (BoxAt.ext hX13 bO1_6).1⟩, ?_⟩
      refine wd_step 4 hR rfl (by kernel_rfl) (by kernel_rfl) (by kernel_rfl) (sn_call (f := 26) (args := #[.agg #[.int .i64 200, .int .i64 0, .int .i64 0, .int .i64 20000, .int .i64 10000, .int .i64 0, .int .i64 1], .agg #[.int .i64 0, .int .i64 60], .int .i64 10, .int .i64 3, .agg #[.slice (some ⟨B125, 0, none⟩) 24 24]]) (by kernel_rfl) ((Best_r (o := Swath.o0) (sp := Swath.sp0) (mi := 10) (W := 3) (bt := ((17, 27), 2, true)) _ _ (RowsAt.va hr127 (by kernel_rfl)).aa (Ext.refl _) rfl rfl rfl rfl (best_ex3)).mono ?_))
      rintro e w132 ⟨rfl, hb⟩
      replace hE := hE.trans hb; replace hX13 := hX13.trans hb; replace hX26 := hX26.trans hb; replace hX39 := hX39.trans hb; replace hX52 := hX52.trans hb; replace hX72 := hX72.trans hb; replace bO117_0 := BoxAt.ext hb bO117_0; replace bO117_1 := BoxAt.ext hb bO117_1; replace bO121_0 := BoxAt.ext hb bO121_0; replace hr127 := hr127.ext hb; have hs133 := hb.size; clear hb
      refine ⟨_, rfl, ⟨(BoxAt.ext hX13 bO1_0).1, (BoxAt.ext hX13 bO1_1).1, (BoxAt.ext hX13 bO1_2).1, (BoxAt.ext hX13 bO1_3).1, (BoxAt.ext hX13 bO1_4).1, (BoxAt.ext hX13 bO1_5).1, (BoxAt.ext hX13 bO1_6).1⟩, ?_⟩
      refine wd_take 5 (.tuple #[.agg #[.int .i64 17, .int .i64 27], .int .i64 2, .bool true, .int .i64 0]) hR rfl (by kernel_rfl) rfl (by kernel_rfl) (fun w _ => by kernel_rfl) (⟨(BoxAt.ext hX13 bO1_0).1, (BoxAt.ext hX13 bO1_1).1, (BoxAt.ext hX13 bO1_2).1, (BoxAt.ext hX13 bO1_3).1, (BoxAt.ext hX13 bO1_4).1, (BoxAt.ext hX13 bO1_5).1, (BoxAt.ext hX13 bO1_6).1⟩) ?_
      refine wd_take 6 (.agg #[.int .i64 17, .int .i64 27]) hR rfl (by kernel_rfl) rfl (by kernel_rfl) (fun w _ => by kernel_rfl) (⟨(BoxAt.ext hX13 bO1_0).1, (BoxAt.ext hX13 bO1_1).1, (BoxAt.ext hX13 bO1_2).1, (BoxAt.ext hX13 bO1_3).1, (BoxAt.ext hX13 bO1_4).1, (BoxAt.ext hX13 bO1_5).1, (BoxAt.ext hX13 bO1_6).1⟩) ?_
      refine wd_take 7 (.int .i64 2) hR rfl (by kernel_rfl) rfl (by kernel_rfl) (fun w _ => by kernel_rfl) (⟨(BoxAt.ext hX13 bO1_0).1, (BoxAt.ext hX13 bO1_1).1, (BoxAt.ext hX13 bO1_2).1, (BoxAt.ext hX13 bO1_3).1, (BoxAt.ext hX13 bO1_4).1, (BoxAt.ext hX13 bO1_5).1, (BoxAt.ext hX13 bO1_6).1⟩) ?_
      refine wd_take 8 (.bool true) hR rfl (by kernel_rfl) rfl (by kernel_rfl) (fun w _ => by kernel_rfl) (⟨(BoxAt.ext hX13 bO1_0).1, (BoxAt.ext hX13 bO1_1).1, (BoxAt.ext hX13 bO1_2).1, (BoxAt.ext hX13 bO1_3).1, (BoxAt.ext hX13 bO1_4).1, (BoxAt.ext hX13 bO1_5).1, (BoxAt.ext hX13 bO1_6).1⟩) ?_
      refine wd_take 9 (.int .i64 0) hR rfl (by kernel_rfl) rfl (by kernel_rfl) (fun w _ => by kernel_rfl) (⟨(BoxAt.ext hX13 bO1_0).1, (BoxAt.ext hX13 bO1_1).1, (BoxAt.ext hX13 bO1_2).1, (BoxAt.ext hX13 bO1_3).1, (BoxAt.ext hX13 bO1_4).1, (BoxAt.ext hX13 bO1_5).1, (BoxAt.ext hX13 bO1_6).1⟩) ?_
      refine wd_step 11 hR rfl (by kernel_rfl) (by kernel_rfl) (by kernel_rfl) (sn_set2 (O := O117) (j := 0) (v := .int .i64 17) (v' := .int .i64 27) (ex_store (p := .pointer (some ⟨O117, 0, none⟩)) (v := .agg #[.int .i64 17, .int .i64 27]) rfl (by kernel_rfl) (by kernel_rfl) (st26 bO117_0.1 bO117_0.2 bO117_1.1 bO117_1.2)) bO117_0 bO117_1 ?_)
      intro X134 ho hv0 hv1 hk
      replace hE := ho.ext hE (T (T hs3 (T hs6 (T hs9 (T hs12 (T hs18 (T hs22 (T hs25 (T hs31 (T hs35 (T hs38 (T hs44 (T hs48 (T hs51 (T hs63 (T hs68 (T hs71 hs74)))))))))))))))) (Nat.le_of_eq hzO117)); replace hX13 := ho.ext hX13 (T (T hs18 (T hs22 (T hs25 (T hs31 (T hs35 (T hs38 (T hs44 (T hs48 (T hs51 (T hs63 (T hs68 (T hs71 hs74)))))))))))) (Nat.le_of_eq hzO117)); replace hX26 := ho.ext hX26 (T (T hs31 (T hs35 (T hs38 (T hs44 (T hs48 (T hs51 (T hs63 (T hs68 (T hs71 hs74))))))))) (Nat.le_of_eq hzO117)); replace hX39 := ho.ext hX39 (T (T hs44 (T hs48 (T hs51 (T hs63 (T hs68 (T hs71 hs74)))))) (Nat.le_of_eq hzO117)); replace hX52 := ho.ext hX52 (T (T hs63 (T hs68 (T hs71 hs74))) (Nat.le_of_eq hzO117)); replace hX72 := ho.ext hX72 (T hs74 (Nat.le_of_eq hzO117)); replace bO121_0 := ho.box (Nat.ne_of_lt (Nat.lt_of_lt_of_le lt120 (Nat.le_of_eq hzO121))) bO121_0; replace hr127 := ho.rows (Nat.ne_of_lt (Nat.lt_of_lt_of_le lt120 (T hs123 hn126))) hr127
      have hs135 : w132.heap.size ≤ X134.heap.size := Nat.le_of_eq ho.size.symm
      clear ho hk bO117_0 bO117_1
      have bO117_0 := hv0; clear hv0
      have bO117_1 := hv1; clear hv1
      refine ⟨⟨(BoxAt.ext hX13 bO1_0).1, (BoxAt.ext hX13 bO1_1).1, (BoxAt.ext hX13 bO1_2).1, (BoxAt.ext hX13 bO1_3).1, (BoxAt.ext hX13 bO1_4).1, (BoxAt.ext hX13 bO1_5).1, (BoxAt.ext hX13 bO1_6).1⟩, ?_⟩
      refine wd_take 12 (.int .i64 2) hR rfl (by kernel_rfl) rfl (by kernel_rfl) (fun w _ => by kernel_rfl) (⟨(BoxAt.ext hX13 bO1_0).1, (BoxAt.ext hX13 bO1_1).1, (BoxAt.ext hX13 bO1_2).1, (BoxAt.ext hX13 bO1_3).1, (BoxAt.ext hX13 bO1_4).1, (BoxAt.ext hX13 bO1_5).1, (BoxAt.ext hX13 bO1_6).1⟩) ?_
      refine wd_take 13 (.bool true) hR rfl (by kernel_rfl) rfl (by kernel_rfl) (fun w _ => by kernel_rfl) (⟨(BoxAt.ext hX13 bO1_0).1, (BoxAt.ext hX13 bO1_1).1, (BoxAt.ext hX13 bO1_2).1, (BoxAt.ext hX13 bO1_3).1, (BoxAt.ext hX13 bO1_4).1, (BoxAt.ext hX13 bO1_5).1, (BoxAt.ext hX13 bO1_6).1⟩) ?_
      refine wd_take 14 (.int .i64 0) hR rfl (by kernel_rfl) rfl (by kernel_rfl) (fun w _ => by kernel_rfl) (⟨(BoxAt.ext hX13 bO1_0).1, (BoxAt.ext hX13 bO1_1).1, (BoxAt.ext hX13 bO1_2).1, (BoxAt.ext hX13 bO1_3).1, (BoxAt.ext hX13 bO1_4).1, (BoxAt.ext hX13 bO1_5).1, (BoxAt.ext hX13 bO1_6).1⟩) ?_
      refine wd_end hL hR hK (by kernel_rfl) ?_
      exact qw_leaf hJ [1, 2, 3, 4, 5, 6, 7, 8, 9, 10, 11, 12, 13, 14] (ws' := [(1, .pointer (some ⟨O1, 0, none⟩)), (2, .pointer (some ⟨O7, 0, none⟩)), (3, .pointer (some ⟨O20, 0, none⟩)), (4, .int .i64 0), (5, .pointer (some ⟨O33, 0, none⟩)), (6, .int .i64 0), (7, .pointer (some ⟨O46, 0, none⟩)), (8, .int .i64 0), (9, .pointer (some ⟨O66, 0, none⟩)), (10, .int .i64 0), (11, .pointer (some ⟨O117, 0, none⟩)), (12, .int .i64 2), (13, .bool true), (14, .int .i64 0)]) (by kernel_rfl) ⟨O121, B125, O117, rfl, hE, hX13, hX26, hX39, hX52, hX72, bO121_0, hr127, bO117_0, bO117_1, (T hs74 (T hs119 (T hs123 (T hs130 (T hs133 hs135))))), (T (T hs74 hs119) (Nat.le_of_eq hzO121)), (T (T hs74 (T hs119 hs123)) hn126), (T hs74 (Nat.le_of_eq hzO117)), Lib.hid (Nat.ne_of_lt (Nat.lt_of_lt_of_le lt124 hn126)), Lib.hid (Nat.ne_of_gt (Nat.lt_of_lt_of_le lt120 (Nat.le_of_eq hzO121))), Lib.hid (Nat.ne_of_gt (Nat.lt_of_lt_of_le lt120 (T hs123 hn126)))⟩
  ·
    clear hE hX13 hX26 hX39 hX52 hX72
    rintro L ws Y136 ⟨O75, B79, O88, rfl, hE, hX13, hX26, hX39, hX52, hX72, bO75_0, hr81, bO88_0, bO88_1, hn137, hn138, hn139, hn140, hn141, hn142, hn143⟩
    have lt144 := bO75_0.lt; have lt145 := hr81.lt; have lt146 := bO88_0.lt; refine qw_then ?_; refine cw_seq ?_
    have hX147 : Ext Y136 Y136 := Ext.refl _
    refine cw_join (fun ws' Y => ∃ O150 : Nat, ∃ B154 : Nat, ∃ O163 : Nat, ws' = [(1, .pointer (some ⟨O1, 0, none⟩)), (2, .pointer (some ⟨O7, 0, none⟩)), (3, .pointer (some ⟨O20, 0, none⟩)), (4, .int .i64 0), (5, .pointer (some ⟨O33, 0, none⟩)), (6, .int .i64 0), (7, .pointer (some ⟨O46, 0, none⟩)), (8, .int .i64 0), (9, .pointer (some ⟨O66, 0, none⟩)), (10, .int .i64 0), (11, .pointer (some ⟨O88, 0, none⟩)), (12, .int .i64 2), (13, .bool true), (14, .int .i64 0), (17, .bool false), (18, .int .i64 0)] ∧ Ext w Y ∧ Ext X11 Y ∧ Ext X24 Y ∧ Ext X37 Y ∧ Ext X50 Y ∧ Ext X70 Y ∧ Ext Y136 Y ∧ BoxAt Y O150 0 (.int .i64 5) ∧ RowsAt Y B154 (Swath.stripL 12 [5]) ∧ BoxAt Y O163 0 (.int .i64 0) ∧ BoxAt Y O163 1 (.int .i64 0) ∧ Y136.heap.size ≤ Y.heap.size ∧ Y136.heap.size ≤ O150 ∧ Y136.heap.size ≤ B154 ∧ Y136.heap.size ≤ O163 ∧ Hid (O150 ≠ B154) ∧ Hid (O150 ≠ O163) ∧ Hid (B154 ≠ O163)) (fun hJ => ?_) ?_
    ·
      refine cw_draw [(some 63, [1], []), (some 64, [], []), (some 65, [], []), (some 66, [65], [2]), (some 67, [63, 64, 66], [0, 1, 3, 3]), (some 62, [67], [4]), (some 68, [62], [5]), (some 69, [62], [5]), (some 70, [62], [5]), (some 71, [62], [5]), (some 15, [], []), (none, [15, 68], [10, 6, 4, 0, 1, 2, 3, 4, 5, 6, 10]), (some 16, [69], [7, 11, 0, 1, 2, 3, 4, 5, 6, 7, 10, 11]), (some 17, [70], [8, 12, 0, 1, 2, 3, 4, 5, 6, 7, 8, 10, 11, 12]), (some 18, [71], [9, 13, 0, 1, 2, 3, 4, 5, 6, 7, 8, 9, 10, 11, 12, 13])] (fun w' => w'.cell? ⟨O1, 0, none⟩ = some (.int .i64 200) ∧ w'.cell? ⟨O1, 1, none⟩ = some (.int .i64 0) ∧ w'.cell? ⟨O1, 2, none⟩ = some (.int .i64 0) ∧ w'.cell? ⟨O1, 3, none⟩ = some (.int .i64 20000) ∧ w'.cell? ⟨O1, 4, none⟩ = some (.int .i64 10000) ∧ w'.cell? ⟨O1, 5, none⟩ = some (.int .i64 0) ∧ w'.cell? ⟨O1, 6, none⟩ = some (.int .i64 1)) (by kernel_rfl) (by kernel_rfl) (by kernel_rfl) (by kernel_rfl) ((calm_then calm_body)) (⟨(BoxAt.ext hX13 bO1_0).1, (BoxAt.ext hX13 bO1_1).1, (BoxAt.ext hX13 bO1_2).1, (BoxAt.ext hX13 bO1_3).1, (BoxAt.ext hX13 bO1_4).1, (BoxAt.ext hX13 bO1_5).1, (BoxAt.ext hX13 bO1_6).1⟩) (fun ops Q X148 hb hL hR hK => ?_)
      replace hE := hE.trans hb; replace hX13 := hX13.trans hb; replace hX26 := hX26.trans hb; replace hX39 := hX39.trans hb; replace hX52 := hX52.trans hb; replace hX72 := hX72.trans hb; replace hX147 := hX147.trans hb; have hs149 := hb.size; clear hb
      refine wd_take 0 (.agg #[.int .i64 200, .int .i64 0, .int .i64 0, .int .i64 20000, .int .i64 10000, .int .i64 0, .int .i64 1]) hR rfl (by kernel_rfl) rfl (by kernel_rfl) (fun w hS => ex_load rfl (by kernel_rfl) (ld24 (hS.1) (hS.2.1) (hS.2.2.1) (hS.2.2.2.1) (hS.2.2.2.2.1) (hS.2.2.2.2.2.1) (hS.2.2.2.2.2.2))) (⟨(BoxAt.ext hX13 bO1_0).1, (BoxAt.ext hX13 bO1_1).1, (BoxAt.ext hX13 bO1_2).1, (BoxAt.ext hX13 bO1_3).1, (BoxAt.ext hX13 bO1_4).1, (BoxAt.ext hX13 bO1_5).1, (BoxAt.ext hX13 bO1_6).1⟩) ?_
      refine wd_take 1 (.agg #[.int .i64 0, .int .i64 60]) hR rfl (by kernel_rfl) rfl (by kernel_rfl) (fun w _ => by kernel_rfl) (⟨(BoxAt.ext hX13 bO1_0).1, (BoxAt.ext hX13 bO1_1).1, (BoxAt.ext hX13 bO1_2).1, (BoxAt.ext hX13 bO1_3).1, (BoxAt.ext hX13 bO1_4).1, (BoxAt.ext hX13 bO1_5).1, (BoxAt.ext hX13 bO1_6).1⟩) ?_
      refine wd_two 2 10 hR rfl rfl (by kernel_rfl) (by kernel_rfl) (by kernel_rfl) (by kernel_rfl) ?_ ?_
      ·
        refine sn_newS (us := #[.int .i64 5]) (t := 3) (k := 1) (c := 1) (by kernel_rfl) ?_
        intro O150 X151 hO hOs hb hbx
        have hzO150 := hO; have hyO150 := hOs; clear hO hOs
        have bO150_0 : BoxAt X151 O150 0 (.int .i64 5) := hbx 0 _ rfl
        clear hbx; replace hE := hE.trans hb; replace hX13 := hX13.trans hb; replace hX26 := hX26.trans hb; replace hX39 := hX39.trans hb; replace hX52 := hX52.trans hb; replace hX72 := hX72.trans hb; replace hX147 := hX147.trans hb; have hs152 := hb.size; clear hb; have lt153 := bO150_0.lt
        refine ⟨⟨(BoxAt.ext hX13 bO1_0).1, (BoxAt.ext hX13 bO1_1).1, (BoxAt.ext hX13 bO1_2).1, (BoxAt.ext hX13 bO1_3).1, (BoxAt.ext hX13 bO1_4).1, (BoxAt.ext hX13 bO1_5).1, (BoxAt.ext hX13 bO1_6).1⟩, ?_⟩
        refine wd_two 3 10 hR rfl rfl (by kernel_rfl) (by kernel_rfl) (by kernel_rfl) (by kernel_rfl) ?_ ?_
        ·
          have hI157 : IntsAt X151 (some ⟨O150, 0, none⟩) ((([5] : List Nat)).map fun y => ((y : Nat) : Int)) := (.inr ⟨O150, 0, rfl, fun i hi => by
            match i, hi with
            | 0, _ => exact bO150_0.1
            | _ + 1, hi => exact absurd hi (by simp)⟩)
          refine sn_call (f := 37) (args := #[.int .i64 12, .slice (some ⟨O150, 0, none⟩) 1 1]) (by kernel_rfl) ((strip_c (x := 12) (ys := [5]) _ (by decide) hI157 rfl (by decide) (by decide) (Ext.refl _)).mono ?_)
          rintro e w158 ⟨B154, rfl, hn155, hr156, hb⟩
          replace hE := hE.trans hb; replace hX13 := hX13.trans hb; replace hX26 := hX26.trans hb; replace hX39 := hX39.trans hb; replace hX52 := hX52.trans hb; replace hX72 := hX72.trans hb; replace hX147 := hX147.trans hb; replace bO150_0 := BoxAt.ext hb bO150_0; have hs159 := hb.size; clear hb; have lt160 := hr156.lt
          refine ⟨_, rfl, ⟨(BoxAt.ext hX13 bO1_0).1, (BoxAt.ext hX13 bO1_1).1, (BoxAt.ext hX13 bO1_2).1, (BoxAt.ext hX13 bO1_3).1, (BoxAt.ext hX13 bO1_4).1, (BoxAt.ext hX13 bO1_5).1, (BoxAt.ext hX13 bO1_6).1⟩, ?_⟩
          refine wd_two 4 10 hR rfl rfl (by kernel_rfl) (by kernel_rfl) (by kernel_rfl) (by kernel_rfl) ?_ ?_
          ·
            refine sn_call (f := 26) (args := #[.agg #[.int .i64 200, .int .i64 0, .int .i64 0, .int .i64 20000, .int .i64 10000, .int .i64 0, .int .i64 1], .agg #[.int .i64 0, .int .i64 60], .int .i64 10, .int .i64 1, .agg #[.slice (some ⟨B154, 0, none⟩) 24 24]]) (by kernel_rfl) ((Best_r (o := Swath.o0) (sp := Swath.sp0) (mi := 10) (W := 1) (bt := ((0, 0), 0, false)) _ _ (RowsAt.va hr156 (by kernel_rfl)).aa (Ext.refl _) rfl rfl rfl rfl (best_ex1)).mono ?_)
            rintro e w161 ⟨rfl, hb⟩
            replace hE := hE.trans hb; replace hX13 := hX13.trans hb; replace hX26 := hX26.trans hb; replace hX39 := hX39.trans hb; replace hX52 := hX52.trans hb; replace hX72 := hX72.trans hb; replace hX147 := hX147.trans hb; replace bO150_0 := BoxAt.ext hb bO150_0; replace hr156 := hr156.ext hb; have hs162 := hb.size; clear hb
            refine ⟨_, rfl, ⟨(BoxAt.ext hX13 bO1_0).1, (BoxAt.ext hX13 bO1_1).1, (BoxAt.ext hX13 bO1_2).1, (BoxAt.ext hX13 bO1_3).1, (BoxAt.ext hX13 bO1_4).1, (BoxAt.ext hX13 bO1_5).1, (BoxAt.ext hX13 bO1_6).1⟩, ?_⟩
            refine wd_take 5 (.tuple #[.agg #[.int .i64 0, .int .i64 0], .int .i64 0, .bool false, .int .i64 0]) hR rfl (by kernel_rfl) rfl (by kernel_rfl) (fun w _ => by kernel_rfl) (⟨(BoxAt.ext hX13 bO1_0).1, (BoxAt.ext hX13 bO1_1).1, (BoxAt.ext hX13 bO1_2).1, (BoxAt.ext hX13 bO1_3).1, (BoxAt.ext hX13 bO1_4).1, (BoxAt.ext hX13 bO1_5).1, (BoxAt.ext hX13 bO1_6).1⟩) ?_
            refine wd_take 6 (.agg #[.int .i64 0, .int .i64 0]) hR rfl (by kernel_rfl) rfl (by kernel_rfl) (fun w _ => by kernel_rfl) (⟨(BoxAt.ext hX13 bO1_0).1, (BoxAt.ext hX13 bO1_1).1, (BoxAt.ext hX13 bO1_2).1, (BoxAt.ext hX13 bO1_3).1, (BoxAt.ext hX13 bO1_4).1, (BoxAt.ext hX13 bO1_5).1, (BoxAt.ext hX13 bO1_6).1⟩) ?_
            refine wd_take 7 (.int .i64 0) hR rfl (by kernel_rfl) rfl (by kernel_rfl) (fun w _ => by kernel_rfl) (⟨(BoxAt.ext hX13 bO1_0).1, (BoxAt.ext hX13 bO1_1).1, (BoxAt.ext hX13 bO1_2).1, (BoxAt.ext hX13 bO1_3).1, (BoxAt.ext hX13 bO1_4).1, (BoxAt.ext hX13 bO1_5).1, (BoxAt.ext hX13 bO1_6).1⟩) ?_
            refine wd_take 8 (.bool false) hR rfl (by kernel_rfl) rfl (by kernel_rfl) (fun w _ => by kernel_rfl) (⟨(BoxAt.ext hX13 bO1_0).1, (BoxAt.ext hX13 bO1_1).1, (BoxAt.ext hX13 bO1_2).1, (BoxAt.ext hX13 bO1_3).1, (BoxAt.ext hX13 bO1_4).1, (BoxAt.ext hX13 bO1_5).1, (BoxAt.ext hX13 bO1_6).1⟩) ?_
            refine wd_take 9 (.int .i64 0) hR rfl (by kernel_rfl) rfl (by kernel_rfl) (fun w _ => by kernel_rfl) (⟨(BoxAt.ext hX13 bO1_0).1, (BoxAt.ext hX13 bO1_1).1, (BoxAt.ext hX13 bO1_2).1, (BoxAt.ext hX13 bO1_3).1, (BoxAt.ext hX13 bO1_4).1, (BoxAt.ext hX13 bO1_5).1, (BoxAt.ext hX13 bO1_6).1⟩) ?_
            refine wd_step 10 hR rfl (by kernel_rfl) (by kernel_rfl) (by kernel_rfl) (sn_new (us := #[.int .i64 0, .int .i64 0]) (t := 26) (by kernel_rfl) ?_)
            intro O163 X164 hO hOs hb hbx
            have hzO163 := hO; have hyO163 := hOs; clear hO hOs
            have bO163_0 : BoxAt X164 O163 0 (.int .i64 0) := hbx 0 _ rfl
            have bO163_1 : BoxAt X164 O163 1 (.int .i64 0) := hbx 1 _ rfl
            clear hbx; replace hE := hE.trans hb; replace hX13 := hX13.trans hb; replace hX26 := hX26.trans hb; replace hX39 := hX39.trans hb; replace hX52 := hX52.trans hb; replace hX72 := hX72.trans hb; replace hX147 := hX147.trans hb; replace bO150_0 := BoxAt.ext hb bO150_0; replace hr156 := hr156.ext hb; have hs165 := hb.size; clear hb; have lt166 := bO163_0.lt
            refine ⟨⟨(BoxAt.ext hX13 bO1_0).1, (BoxAt.ext hX13 bO1_1).1, (BoxAt.ext hX13 bO1_2).1, (BoxAt.ext hX13 bO1_3).1, (BoxAt.ext hX13 bO1_4).1, (BoxAt.ext hX13 bO1_5).1, (BoxAt.ext hX13 bO1_6).1⟩, ?_⟩
            refine wd_step 11 hR rfl (by kernel_rfl) (by kernel_rfl) (by kernel_rfl) (sn_set2 (O := O163) (j := 0) (v := .int .i64 0) (v' := .int .i64 0) (ex_store (p := .pointer (some ⟨O163, 0, none⟩)) (v := .agg #[.int .i64 0, .int .i64 0]) rfl (by kernel_rfl) (by kernel_rfl) (st26 bO163_0.1 bO163_0.2 bO163_1.1 bO163_1.2)) bO163_0 bO163_1 ?_)
            intro X167 ho hv0 hv1 hk
            replace hE := ho.ext hE (T (T hs3 (T hs6 (T hs9 (T hs12 (T hs18 (T hs22 (T hs25 (T hs31 (T hs35 (T hs38 (T hs44 (T hs48 (T hs51 (T hs63 (T hs68 (T hs71 (T hn137 (T hs149 (T hs152 (T hs159 hs162)))))))))))))))))))) (Nat.le_of_eq hzO163)); replace hX13 := ho.ext hX13 (T (T hs18 (T hs22 (T hs25 (T hs31 (T hs35 (T hs38 (T hs44 (T hs48 (T hs51 (T hs63 (T hs68 (T hs71 (T hn137 (T hs149 (T hs152 (T hs159 hs162)))))))))))))))) (Nat.le_of_eq hzO163)); replace hX26 := ho.ext hX26 (T (T hs31 (T hs35 (T hs38 (T hs44 (T hs48 (T hs51 (T hs63 (T hs68 (T hs71 (T hn137 (T hs149 (T hs152 (T hs159 hs162))))))))))))) (Nat.le_of_eq hzO163)); replace hX39 := ho.ext hX39 (T (T hs44 (T hs48 (T hs51 (T hs63 (T hs68 (T hs71 (T hn137 (T hs149 (T hs152 (T hs159 hs162)))))))))) (Nat.le_of_eq hzO163)); replace hX52 := ho.ext hX52 (T (T hs63 (T hs68 (T hs71 (T hn137 (T hs149 (T hs152 (T hs159 hs162))))))) (Nat.le_of_eq hzO163)); replace hX72 := ho.ext hX72 (T (T hn137 (T hs149 (T hs152 (T hs159 hs162)))) (Nat.le_of_eq hzO163)); replace hX147 := ho.ext hX147 (T (T hs149 (T hs152 (T hs159 hs162))) (Nat.le_of_eq hzO163)); replace bO150_0 := ho.box (Nat.ne_of_gt (Nat.lt_of_lt_of_le lt153 (T (T hs159 hs162) (Nat.le_of_eq hzO163)))) bO150_0; replace hr156 := ho.rows (Nat.ne_of_gt (Nat.lt_of_lt_of_le lt160 (T hs162 (Nat.le_of_eq hzO163)))) hr156
            have hs168 : X164.heap.size ≤ X167.heap.size := Nat.le_of_eq ho.size.symm
            clear ho hk bO163_0 bO163_1
            have bO163_0 := hv0; clear hv0
            have bO163_1 := hv1; clear hv1
            refine ⟨⟨(BoxAt.ext hX13 bO1_0).1, (BoxAt.ext hX13 bO1_1).1, (BoxAt.ext hX13 bO1_2).1, (BoxAt.ext hX13 bO1_3).1, (BoxAt.ext hX13 bO1_4).1, (BoxAt.ext hX13 bO1_5).1, (BoxAt.ext hX13 bO1_6).1⟩, ?_⟩
            refine wd_take 12 (.int .i64 0) hR rfl (by kernel_rfl) rfl (by kernel_rfl) (fun w _ => by kernel_rfl) (⟨(BoxAt.ext hX13 bO1_0).1, (BoxAt.ext hX13 bO1_1).1, (BoxAt.ext hX13 bO1_2).1, (BoxAt.ext hX13 bO1_3).1, (BoxAt.ext hX13 bO1_4).1, (BoxAt.ext hX13 bO1_5).1, (BoxAt.ext hX13 bO1_6).1⟩) ?_
            refine wd_take 13 (.bool false) hR rfl (by kernel_rfl) rfl (by kernel_rfl) (fun w _ => by kernel_rfl) (⟨(BoxAt.ext hX13 bO1_0).1, (BoxAt.ext hX13 bO1_1).1, (BoxAt.ext hX13 bO1_2).1, (BoxAt.ext hX13 bO1_3).1, (BoxAt.ext hX13 bO1_4).1, (BoxAt.ext hX13 bO1_5).1, (BoxAt.ext hX13 bO1_6).1⟩) ?_
            refine wd_take 14 (.int .i64 0) hR rfl (by kernel_rfl) rfl (by kernel_rfl) (fun w _ => by kernel_rfl) (⟨(BoxAt.ext hX13 bO1_0).1, (BoxAt.ext hX13 bO1_1).1, (BoxAt.ext hX13 bO1_2).1, (BoxAt.ext hX13 bO1_3).1, (BoxAt.ext hX13 bO1_4).1, (BoxAt.ext hX13 bO1_5).1, (BoxAt.ext hX13 bO1_6).1⟩) ?_
            refine wd_end hL hR hK (by kernel_rfl) ?_
            exact qw_leaf hJ [1, 2, 3, 4, 5, 6, 7, 8, 9, 10, 11, 12, 13, 14, 17, 18] (ws' := [(1, .pointer (some ⟨O1, 0, none⟩)), (2, .pointer (some ⟨O7, 0, none⟩)), (3, .pointer (some ⟨O20, 0, none⟩)), (4, .int .i64 0), (5, .pointer (some ⟨O33, 0, none⟩)), (6, .int .i64 0), (7, .pointer (some ⟨O46, 0, none⟩)), (8, .int .i64 0), (9, .pointer (some ⟨O66, 0, none⟩)), (10, .int .i64 0), (11, .pointer (some ⟨O88, 0, none⟩)), (12, .int .i64 2), (13, .bool true), (14, .int .i64 0), (17, .bool false), (18, .int .i64 0)]) (by kernel_rfl) ⟨O150, B154, O163, rfl, hE, hX13, hX26, hX39, hX52, hX72, hX147, bO150_0, hr156, bO163_0, bO163_1, (T hs149 (T hs152 (T hs159 (T hs162 (T hs165 hs168))))), (T hs149 (Nat.le_of_eq hzO150)), (T (T hs149 hs152) hn155), (T (T hs149 (T hs152 (T hs159 hs162))) (Nat.le_of_eq hzO163)), Lib.hid (Nat.ne_of_lt (Nat.lt_of_lt_of_le lt153 hn155)), Lib.hid (Nat.ne_of_lt (Nat.lt_of_lt_of_le lt153 (T (T hs159 hs162) (Nat.le_of_eq hzO163)))), Lib.hid (Nat.ne_of_lt (Nat.lt_of_lt_of_le lt160 (T hs162 (Nat.le_of_eq hzO163))))⟩
          ·
            refine sn_new (us := #[.int .i64 0, .int .i64 0]) (t := 26) (by kernel_rfl) ?_
            intro O169 X170 hO hOs hb hbx
            have hzO169 := hO; have hyO169 := hOs; clear hO hOs
            have bO169_0 : BoxAt X170 O169 0 (.int .i64 0) := hbx 0 _ rfl
            have bO169_1 : BoxAt X170 O169 1 (.int .i64 0) := hbx 1 _ rfl
            clear hbx; replace hE := hE.trans hb; replace hX13 := hX13.trans hb; replace hX26 := hX26.trans hb; replace hX39 := hX39.trans hb; replace hX52 := hX52.trans hb; replace hX72 := hX72.trans hb; replace hX147 := hX147.trans hb; replace bO150_0 := BoxAt.ext hb bO150_0; replace hr156 := hr156.ext hb; have hs171 := hb.size; clear hb; have lt172 := bO169_0.lt
            refine ⟨⟨(BoxAt.ext hX13 bO1_0).1, (BoxAt.ext hX13 bO1_1).1, (BoxAt.ext hX13 bO1_2).1, (BoxAt.ext hX13 bO1_3).1, (BoxAt.ext hX13 bO1_4).1, (BoxAt.ext hX13 bO1_5).1, (BoxAt.ext hX13 bO1_6).1⟩, ?_⟩
            refine wd_step 4 hR rfl (by kernel_rfl) (by kernel_rfl) (by kernel_rfl) (sn_call (f := 26) (args := #[.agg #[.int .i64 200, .int .i64 0, .int .i64 0, .int .i64 20000, .int .i64 10000, .int .i64 0, .int .i64 1], .agg #[.int .i64 0, .int .i64 60], .int .i64 10, .int .i64 1, .agg #[.slice (some ⟨B154, 0, none⟩) 24 24]]) (by kernel_rfl) ((Best_r (o := Swath.o0) (sp := Swath.sp0) (mi := 10) (W := 1) (bt := ((0, 0), 0, false)) _ _ (RowsAt.va hr156 (by kernel_rfl)).aa (Ext.refl _) rfl rfl rfl rfl (best_ex1)).mono ?_))
            rintro e w173 ⟨rfl, hb⟩
            replace hE := hE.trans hb; replace hX13 := hX13.trans hb; replace hX26 := hX26.trans hb; replace hX39 := hX39.trans hb; replace hX52 := hX52.trans hb; replace hX72 := hX72.trans hb; replace hX147 := hX147.trans hb; replace bO150_0 := BoxAt.ext hb bO150_0; replace hr156 := hr156.ext hb; replace bO169_0 := BoxAt.ext hb bO169_0; replace bO169_1 := BoxAt.ext hb bO169_1; have hs174 := hb.size; clear hb
            refine ⟨_, rfl, ⟨(BoxAt.ext hX13 bO1_0).1, (BoxAt.ext hX13 bO1_1).1, (BoxAt.ext hX13 bO1_2).1, (BoxAt.ext hX13 bO1_3).1, (BoxAt.ext hX13 bO1_4).1, (BoxAt.ext hX13 bO1_5).1, (BoxAt.ext hX13 bO1_6).1⟩, ?_⟩
            refine wd_take 5 (.tuple #[.agg #[.int .i64 0, .int .i64 0], .int .i64 0, .bool false, .int .i64 0]) hR rfl (by kernel_rfl) rfl (by kernel_rfl) (fun w _ => by kernel_rfl) (⟨(BoxAt.ext hX13 bO1_0).1, (BoxAt.ext hX13 bO1_1).1, (BoxAt.ext hX13 bO1_2).1, (BoxAt.ext hX13 bO1_3).1, (BoxAt.ext hX13 bO1_4).1, (BoxAt.ext hX13 bO1_5).1, (BoxAt.ext hX13 bO1_6).1⟩) ?_
            refine wd_take 6 (.agg #[.int .i64 0, .int .i64 0]) hR rfl (by kernel_rfl) rfl (by kernel_rfl) (fun w _ => by kernel_rfl) (⟨(BoxAt.ext hX13 bO1_0).1, (BoxAt.ext hX13 bO1_1).1, (BoxAt.ext hX13 bO1_2).1, (BoxAt.ext hX13 bO1_3).1, (BoxAt.ext hX13 bO1_4).1, (BoxAt.ext hX13 bO1_5).1, (BoxAt.ext hX13 bO1_6).1⟩) ?_
            refine wd_take 7 (.int .i64 0) hR rfl (by kernel_rfl) rfl (by kernel_rfl) (fun w _ => by kernel_rfl) (⟨(BoxAt.ext hX13 bO1_0).1, (BoxAt.ext hX13 bO1_1).1, (BoxAt.ext hX13 bO1_2).1, (BoxAt.ext hX13 bO1_3).1, (BoxAt.ext hX13 bO1_4).1, (BoxAt.ext hX13 bO1_5).1, (BoxAt.ext hX13 bO1_6).1⟩) ?_
            refine wd_take 8 (.bool false) hR rfl (by kernel_rfl) rfl (by kernel_rfl) (fun w _ => by kernel_rfl) (⟨(BoxAt.ext hX13 bO1_0).1, (BoxAt.ext hX13 bO1_1).1, (BoxAt.ext hX13 bO1_2).1, (BoxAt.ext hX13 bO1_3).1, (BoxAt.ext hX13 bO1_4).1, (BoxAt.ext hX13 bO1_5).1, (BoxAt.ext hX13 bO1_6).1⟩) ?_
            refine wd_take 9 (.int .i64 0) hR rfl (by kernel_rfl) rfl (by kernel_rfl) (fun w _ => by kernel_rfl) (⟨(BoxAt.ext hX13 bO1_0).1, (BoxAt.ext hX13 bO1_1).1, (BoxAt.ext hX13 bO1_2).1, (BoxAt.ext hX13 bO1_3).1, (BoxAt.ext hX13 bO1_4).1, (BoxAt.ext hX13 bO1_5).1, (BoxAt.ext hX13 bO1_6).1⟩) ?_
            refine wd_step 11 hR rfl (by kernel_rfl) (by kernel_rfl) (by kernel_rfl) (sn_set2 (O := O169) (j := 0) (v := .int .i64 0) (v' := .int .i64 0) (ex_store (p := .pointer (some ⟨O169, 0, none⟩)) (v := .agg #[.int .i64 0, .int .i64 0]) rfl (by kernel_rfl) (by kernel_rfl) (st26 bO169_0.1 bO169_0.2 bO169_1.1 bO169_1.2)) bO169_0 bO169_1 ?_)
            intro X175 ho hv0 hv1 hk
            replace hE := ho.ext hE (T (T hs3 (T hs6 (T hs9 (T hs12 (T hs18 (T hs22 (T hs25 (T hs31 (T hs35 (T hs38 (T hs44 (T hs48 (T hs51 (T hs63 (T hs68 (T hs71 (T hn137 (T hs149 (T hs152 hs159))))))))))))))))))) (Nat.le_of_eq hzO169)); replace hX13 := ho.ext hX13 (T (T hs18 (T hs22 (T hs25 (T hs31 (T hs35 (T hs38 (T hs44 (T hs48 (T hs51 (T hs63 (T hs68 (T hs71 (T hn137 (T hs149 (T hs152 hs159))))))))))))))) (Nat.le_of_eq hzO169)); replace hX26 := ho.ext hX26 (T (T hs31 (T hs35 (T hs38 (T hs44 (T hs48 (T hs51 (T hs63 (T hs68 (T hs71 (T hn137 (T hs149 (T hs152 hs159)))))))))))) (Nat.le_of_eq hzO169)); replace hX39 := ho.ext hX39 (T (T hs44 (T hs48 (T hs51 (T hs63 (T hs68 (T hs71 (T hn137 (T hs149 (T hs152 hs159))))))))) (Nat.le_of_eq hzO169)); replace hX52 := ho.ext hX52 (T (T hs63 (T hs68 (T hs71 (T hn137 (T hs149 (T hs152 hs159)))))) (Nat.le_of_eq hzO169)); replace hX72 := ho.ext hX72 (T (T hn137 (T hs149 (T hs152 hs159))) (Nat.le_of_eq hzO169)); replace hX147 := ho.ext hX147 (T (T hs149 (T hs152 hs159)) (Nat.le_of_eq hzO169)); replace bO150_0 := ho.box (Nat.ne_of_gt (Nat.lt_of_lt_of_le lt153 (T hs159 (Nat.le_of_eq hzO169)))) bO150_0; replace hr156 := ho.rows (Nat.ne_of_gt (Nat.lt_of_lt_of_le lt160 (Nat.le_of_eq hzO169))) hr156
            have hs176 : w173.heap.size ≤ X175.heap.size := Nat.le_of_eq ho.size.symm
            clear ho hk bO169_0 bO169_1
            have bO169_0 := hv0; clear hv0
            have bO169_1 := hv1; clear hv1
            refine ⟨⟨(BoxAt.ext hX13 bO1_0).1, (BoxAt.ext hX13 bO1_1).1, (BoxAt.ext hX13 bO1_2).1, (BoxAt.ext hX13 bO1_3).1, (BoxAt.ext hX13 bO1_4).1, (BoxAt.ext hX13 bO1_5).1, (BoxAt.ext hX13 bO1_6).1⟩, ?_⟩
            refine wd_take 12 (.int .i64 0) hR rfl (by kernel_rfl) rfl (by kernel_rfl) (fun w _ => by kernel_rfl) (⟨(BoxAt.ext hX13 bO1_0).1, (BoxAt.ext hX13 bO1_1).1, (BoxAt.ext hX13 bO1_2).1, (BoxAt.ext hX13 bO1_3).1, (BoxAt.ext hX13 bO1_4).1, (BoxAt.ext hX13 bO1_5).1, (BoxAt.ext hX13 bO1_6).1⟩) ?_
            refine wd_take 13 (.bool false) hR rfl (by kernel_rfl) rfl (by kernel_rfl) (fun w _ => by kernel_rfl) (⟨(BoxAt.ext hX13 bO1_0).1, (BoxAt.ext hX13 bO1_1).1, (BoxAt.ext hX13 bO1_2).1, (BoxAt.ext hX13 bO1_3).1, (BoxAt.ext hX13 bO1_4).1, (BoxAt.ext hX13 bO1_5).1, (BoxAt.ext hX13 bO1_6).1⟩) ?_
            refine wd_take 14 (.int .i64 0) hR rfl (by kernel_rfl) rfl (by kernel_rfl) (fun w _ => by kernel_rfl) (⟨(BoxAt.ext hX13 bO1_0).1, (BoxAt.ext hX13 bO1_1).1, (BoxAt.ext hX13 bO1_2).1, (BoxAt.ext hX13 bO1_3).1, (BoxAt.ext hX13 bO1_4).1, (BoxAt.ext hX13 bO1_5).1, (BoxAt.ext hX13 bO1_6).1⟩) ?_
            refine wd_end hL hR hK (by kernel_rfl) ?_
            exact qw_leaf hJ [1, 2, 3, 4, 5, 6, 7, 8, 9, 10, 11, 12, 13, 14, 17, 18] (ws' := [(1, .pointer (some ⟨O1, 0, none⟩)), (2, .pointer (some ⟨O7, 0, none⟩)), (3, .pointer (some ⟨O20, 0, none⟩)), (4, .int .i64 0), (5, .pointer (some ⟨O33, 0, none⟩)), (6, .int .i64 0), (7, .pointer (some ⟨O46, 0, none⟩)), (8, .int .i64 0), (9, .pointer (some ⟨O66, 0, none⟩)), (10, .int .i64 0), (11, .pointer (some ⟨O88, 0, none⟩)), (12, .int .i64 2), (13, .bool true), (14, .int .i64 0), (17, .bool false), (18, .int .i64 0)]) (by kernel_rfl) ⟨O150, B154, O169, rfl, hE, hX13, hX26, hX39, hX52, hX72, hX147, bO150_0, hr156, bO169_0, bO169_1, (T hs149 (T hs152 (T hs159 (T hs171 (T hs174 hs176))))), (T hs149 (Nat.le_of_eq hzO150)), (T (T hs149 hs152) hn155), (T (T hs149 (T hs152 hs159)) (Nat.le_of_eq hzO169)), Lib.hid (Nat.ne_of_lt (Nat.lt_of_lt_of_le lt153 hn155)), Lib.hid (Nat.ne_of_lt (Nat.lt_of_lt_of_le lt153 (T hs159 (Nat.le_of_eq hzO169)))), Lib.hid (Nat.ne_of_lt (Nat.lt_of_lt_of_le lt160 (Nat.le_of_eq hzO169)))⟩
        ·
          refine sn_new (us := #[.int .i64 0, .int .i64 0]) (t := 26) (by kernel_rfl) ?_
          intro O177 X178 hO hOs hb hbx
          have hzO177 := hO; have hyO177 := hOs; clear hO hOs
          have bO177_0 : BoxAt X178 O177 0 (.int .i64 0) := hbx 0 _ rfl
          have bO177_1 : BoxAt X178 O177 1 (.int .i64 0) := hbx 1 _ rfl
          clear hbx; replace hE := hE.trans hb; replace hX13 := hX13.trans hb; replace hX26 := hX26.trans hb; replace hX39 := hX39.trans hb; replace hX52 := hX52.trans hb; replace hX72 := hX72.trans hb; replace hX147 := hX147.trans hb; replace bO150_0 := BoxAt.ext hb bO150_0; have hs179 := hb.size; clear hb; have lt180 := bO177_0.lt
          refine ⟨⟨(BoxAt.ext hX13 bO1_0).1, (BoxAt.ext hX13 bO1_1).1, (BoxAt.ext hX13 bO1_2).1, (BoxAt.ext hX13 bO1_3).1, (BoxAt.ext hX13 bO1_4).1, (BoxAt.ext hX13 bO1_5).1, (BoxAt.ext hX13 bO1_6).1⟩, ?_⟩
          have hI184 : IntsAt X178 (some ⟨O150, 0, none⟩) ((([5] : List Nat)).map fun y => ((y : Nat) : Int)) := (.inr ⟨O150, 0, rfl, fun i hi => by
            match i, hi with
            | 0, _ => exact bO150_0.1
            | _ + 1, hi => exact absurd hi (by simp)⟩)
          refine wd_step 3 hR rfl (by kernel_rfl) (by kernel_rfl) (by kernel_rfl) (sn_call (f := 37) (args := #[.int .i64 12, .slice (some ⟨O150, 0, none⟩) 1 1]) (by kernel_rfl) ((strip_c (x := 12) (ys := [5]) _ (by decide) hI184 rfl (by decide) (by decide) (Ext.refl _)).mono ?_))
          rintro e w185 ⟨B181, rfl, hn182, hr183, hb⟩
          replace hE := hE.trans hb; replace hX13 := hX13.trans hb; replace hX26 := hX26.trans hb; replace hX39 := hX39.trans hb; replace hX52 := hX52.trans hb; replace hX72 := hX72.trans hb; replace hX147 := hX147.trans hb; replace bO150_0 := BoxAt.ext hb bO150_0; replace bO177_0 := BoxAt.ext hb bO177_0; replace bO177_1 := BoxAt.ext hb bO177_1; have hs186 := hb.size; clear hb; have lt187 := hr183.lt
          refine ⟨_, rfl, ⟨(BoxAt.ext hX13 bO1_0).1, (BoxAt.ext hX13 bO1_1).1, (BoxAt.ext hX13 bO1_2).1, (BoxAt.ext hX13 bO1_3).1, (BoxAt.ext hX13 bO1_4).1, (BoxAt.ext hX13 bO1_5).1, (BoxAt.ext hX13 bO1_6).1⟩, ?_⟩
          refine wd_step 4 hR rfl (by kernel_rfl) (by kernel_rfl) (by kernel_rfl) (sn_call (f := 26) (args := #[.agg #[.int .i64 200, .int .i64 0, .int .i64 0, .int .i64 20000, .int .i64 10000, .int .i64 0, .int .i64 1], .agg #[.int .i64 0, .int .i64 60], .int .i64 10, .int .i64 1, .agg #[.slice (some ⟨B181, 0, none⟩) 24 24]]) (by kernel_rfl) ((Best_r (o := Swath.o0) (sp := Swath.sp0) (mi := 10) (W := 1) (bt := ((0, 0), 0, false)) _ _ (RowsAt.va hr183 (by kernel_rfl)).aa (Ext.refl _) rfl rfl rfl rfl (best_ex1)).mono ?_))
          rintro e w188 ⟨rfl, hb⟩
          replace hE := hE.trans hb; replace hX13 := hX13.trans hb; replace hX26 := hX26.trans hb; replace hX39 := hX39.trans hb; replace hX52 := hX52.trans hb; replace hX72 := hX72.trans hb; replace hX147 := hX147.trans hb; replace bO150_0 := BoxAt.ext hb bO150_0; replace bO177_0 := BoxAt.ext hb bO177_0; replace bO177_1 := BoxAt.ext hb bO177_1; replace hr183 := hr183.ext hb; have hs189 := hb.size; clear hb
          refine ⟨_, rfl, ⟨(BoxAt.ext hX13 bO1_0).1, (BoxAt.ext hX13 bO1_1).1, (BoxAt.ext hX13 bO1_2).1, (BoxAt.ext hX13 bO1_3).1, (BoxAt.ext hX13 bO1_4).1, (BoxAt.ext hX13 bO1_5).1, (BoxAt.ext hX13 bO1_6).1⟩, ?_⟩
          refine wd_take 5 (.tuple #[.agg #[.int .i64 0, .int .i64 0], .int .i64 0, .bool false, .int .i64 0]) hR rfl (by kernel_rfl) rfl (by kernel_rfl) (fun w _ => by kernel_rfl) (⟨(BoxAt.ext hX13 bO1_0).1, (BoxAt.ext hX13 bO1_1).1, (BoxAt.ext hX13 bO1_2).1, (BoxAt.ext hX13 bO1_3).1, (BoxAt.ext hX13 bO1_4).1, (BoxAt.ext hX13 bO1_5).1, (BoxAt.ext hX13 bO1_6).1⟩) ?_
          refine wd_take 6 (.agg #[.int .i64 0, .int .i64 0]) hR rfl (by kernel_rfl) rfl (by kernel_rfl) (fun w _ => by kernel_rfl) (⟨(BoxAt.ext hX13 bO1_0).1, (BoxAt.ext hX13 bO1_1).1, (BoxAt.ext hX13 bO1_2).1, (BoxAt.ext hX13 bO1_3).1, (BoxAt.ext hX13 bO1_4).1, (BoxAt.ext hX13 bO1_5).1, (BoxAt.ext hX13 bO1_6).1⟩) ?_
          refine wd_take 7 (.int .i64 0) hR rfl (by kernel_rfl) rfl (by kernel_rfl) (fun w _ => by kernel_rfl) (⟨(BoxAt.ext hX13 bO1_0).1, (BoxAt.ext hX13 bO1_1).1, (BoxAt.ext hX13 bO1_2).1, (BoxAt.ext hX13 bO1_3).1, (BoxAt.ext hX13 bO1_4).1, (BoxAt.ext hX13 bO1_5).1, (BoxAt.ext hX13 bO1_6).1⟩) ?_
          refine wd_take 8 (.bool false) hR rfl (by kernel_rfl) rfl (by kernel_rfl) (fun w _ => by kernel_rfl) (⟨(BoxAt.ext hX13 bO1_0).1, (BoxAt.ext hX13 bO1_1).1, (BoxAt.ext hX13 bO1_2).1, (BoxAt.ext hX13 bO1_3).1, (BoxAt.ext hX13 bO1_4).1, (BoxAt.ext hX13 bO1_5).1, (BoxAt.ext hX13 bO1_6).1⟩) ?_
          refine wd_take 9 (.int .i64 0) hR rfl (by kernel_rfl) rfl (by kernel_rfl) (fun w _ => by kernel_rfl) (⟨(BoxAt.ext hX13 bO1_0).1, (BoxAt.ext hX13 bO1_1).1, (BoxAt.ext hX13 bO1_2).1, (BoxAt.ext hX13 bO1_3).1, (BoxAt.ext hX13 bO1_4).1, (BoxAt.ext hX13 bO1_5).1, (BoxAt.ext hX13 bO1_6).1⟩) ?_
          refine wd_step 11 hR rfl (by kernel_rfl) (by kernel_rfl) (by kernel_rfl) (sn_set2 (O := O177) (j := 0) (v := .int .i64 0) (v' := .int .i64 0) (ex_store (p := .pointer (some ⟨O177, 0, none⟩)) (v := .agg #[.int .i64 0, .int .i64 0]) rfl (by kernel_rfl) (by kernel_rfl) (st26 bO177_0.1 bO177_0.2 bO177_1.1 bO177_1.2)) bO177_0 bO177_1 ?_)
          intro X190 ho hv0 hv1 hk
          replace hE := ho.ext hE (T (T hs3 (T hs6 (T hs9 (T hs12 (T hs18 (T hs22 (T hs25 (T hs31 (T hs35 (T hs38 (T hs44 (T hs48 (T hs51 (T hs63 (T hs68 (T hs71 (T hn137 (T hs149 hs152)))))))))))))))))) (Nat.le_of_eq hzO177)); replace hX13 := ho.ext hX13 (T (T hs18 (T hs22 (T hs25 (T hs31 (T hs35 (T hs38 (T hs44 (T hs48 (T hs51 (T hs63 (T hs68 (T hs71 (T hn137 (T hs149 hs152)))))))))))))) (Nat.le_of_eq hzO177)); replace hX26 := ho.ext hX26 (T (T hs31 (T hs35 (T hs38 (T hs44 (T hs48 (T hs51 (T hs63 (T hs68 (T hs71 (T hn137 (T hs149 hs152))))))))))) (Nat.le_of_eq hzO177)); replace hX39 := ho.ext hX39 (T (T hs44 (T hs48 (T hs51 (T hs63 (T hs68 (T hs71 (T hn137 (T hs149 hs152)))))))) (Nat.le_of_eq hzO177)); replace hX52 := ho.ext hX52 (T (T hs63 (T hs68 (T hs71 (T hn137 (T hs149 hs152))))) (Nat.le_of_eq hzO177)); replace hX72 := ho.ext hX72 (T (T hn137 (T hs149 hs152)) (Nat.le_of_eq hzO177)); replace hX147 := ho.ext hX147 (T (T hs149 hs152) (Nat.le_of_eq hzO177)); replace bO150_0 := ho.box (Nat.ne_of_gt (Nat.lt_of_lt_of_le lt153 (Nat.le_of_eq hzO177))) bO150_0; replace hr183 := ho.rows (Nat.ne_of_lt (Nat.lt_of_lt_of_le lt180 hn182)) hr183
          have hs191 : w188.heap.size ≤ X190.heap.size := Nat.le_of_eq ho.size.symm
          clear ho hk bO177_0 bO177_1
          have bO177_0 := hv0; clear hv0
          have bO177_1 := hv1; clear hv1
          refine ⟨⟨(BoxAt.ext hX13 bO1_0).1, (BoxAt.ext hX13 bO1_1).1, (BoxAt.ext hX13 bO1_2).1, (BoxAt.ext hX13 bO1_3).1, (BoxAt.ext hX13 bO1_4).1, (BoxAt.ext hX13 bO1_5).1, (BoxAt.ext hX13 bO1_6).1⟩, ?_⟩
          refine wd_take 12 (.int .i64 0) hR rfl (by kernel_rfl) rfl (by kernel_rfl) (fun w _ => by kernel_rfl) (⟨(BoxAt.ext hX13 bO1_0).1, (BoxAt.ext hX13 bO1_1).1, (BoxAt.ext hX13 bO1_2).1, (BoxAt.ext hX13 bO1_3).1, (BoxAt.ext hX13 bO1_4).1, (BoxAt.ext hX13 bO1_5).1, (BoxAt.ext hX13 bO1_6).1⟩) ?_
          refine wd_take 13 (.bool false) hR rfl (by kernel_rfl) rfl (by kernel_rfl) (fun w _ => by kernel_rfl) (⟨(BoxAt.ext hX13 bO1_0).1, (BoxAt.ext hX13 bO1_1).1, (BoxAt.ext hX13 bO1_2).1, (BoxAt.ext hX13 bO1_3).1, (BoxAt.ext hX13 bO1_4).1, (BoxAt.ext hX13 bO1_5).1, (BoxAt.ext hX13 bO1_6).1⟩) ?_
          refine wd_take 14 (.int .i64 0) hR rfl (by kernel_rfl) rfl (by kernel_rfl) (fun w _ => by kernel_rfl) (⟨(BoxAt.ext hX13 bO1_0).1, (BoxAt.ext hX13 bO1_1).1, (BoxAt.ext hX13 bO1_2).1, (BoxAt.ext hX13 bO1_3).1, (BoxAt.ext hX13 bO1_4).1, (BoxAt.ext hX13 bO1_5).1, (BoxAt.ext hX13 bO1_6).1⟩) ?_
          refine wd_end hL hR hK (by kernel_rfl) ?_
          exact qw_leaf hJ [1, 2, 3, 4, 5, 6, 7, 8, 9, 10, 11, 12, 13, 14, 17, 18] (ws' := [(1, .pointer (some ⟨O1, 0, none⟩)), (2, .pointer (some ⟨O7, 0, none⟩)), (3, .pointer (some ⟨O20, 0, none⟩)), (4, .int .i64 0), (5, .pointer (some ⟨O33, 0, none⟩)), (6, .int .i64 0), (7, .pointer (some ⟨O46, 0, none⟩)), (8, .int .i64 0), (9, .pointer (some ⟨O66, 0, none⟩)), (10, .int .i64 0), (11, .pointer (some ⟨O88, 0, none⟩)), (12, .int .i64 2), (13, .bool true), (14, .int .i64 0), (17, .bool false), (18, .int .i64 0)]) (by kernel_rfl) ⟨O150, B181, O177, rfl, hE, hX13, hX26, hX39, hX52, hX72, hX147, bO150_0, hr183, bO177_0, bO177_1, (T hs149 (T hs152 (T hs179 (T hs186 (T hs189 hs191))))), (T hs149 (Nat.le_of_eq hzO150)), (T (T hs149 (T hs152 hs179)) hn182), (T (T hs149 hs152) (Nat.le_of_eq hzO177)), Lib.hid (Nat.ne_of_lt (Nat.lt_of_lt_of_le lt153 (T hs179 hn182))), Lib.hid (Nat.ne_of_lt (Nat.lt_of_lt_of_le lt153 (Nat.le_of_eq hzO177))), Lib.hid (Nat.ne_of_gt (Nat.lt_of_lt_of_le lt180 hn182))⟩
      ·
        refine sn_new (us := #[.int .i64 0, .int .i64 0]) (t := 26) (by kernel_rfl) ?_
        intro O192 X193 hO hOs hb hbx
        have hzO192 := hO; have hyO192 := hOs; clear hO hOs
        have bO192_0 : BoxAt X193 O192 0 (.int .i64 0) := hbx 0 _ rfl
        have bO192_1 : BoxAt X193 O192 1 (.int .i64 0) := hbx 1 _ rfl
        clear hbx; replace hE := hE.trans hb; replace hX13 := hX13.trans hb; replace hX26 := hX26.trans hb; replace hX39 := hX39.trans hb; replace hX52 := hX52.trans hb; replace hX72 := hX72.trans hb; replace hX147 := hX147.trans hb; have hs194 := hb.size; clear hb; have lt195 := bO192_0.lt
        refine ⟨⟨(BoxAt.ext hX13 bO1_0).1, (BoxAt.ext hX13 bO1_1).1, (BoxAt.ext hX13 bO1_2).1, (BoxAt.ext hX13 bO1_3).1, (BoxAt.ext hX13 bO1_4).1, (BoxAt.ext hX13 bO1_5).1, (BoxAt.ext hX13 bO1_6).1⟩, ?_⟩
        refine wd_step 2 hR rfl (by kernel_rfl) (by kernel_rfl) (by kernel_rfl) (sn_newS (us := #[.int .i64 5]) (t := 3) (k := 1) (c := 1) (by kernel_rfl) ?_)
        intro O196 X197 hO hOs hb hbx
        have hzO196 := hO; have hyO196 := hOs; clear hO hOs
        have bO196_0 : BoxAt X197 O196 0 (.int .i64 5) := hbx 0 _ rfl
        clear hbx; replace hE := hE.trans hb; replace hX13 := hX13.trans hb; replace hX26 := hX26.trans hb; replace hX39 := hX39.trans hb; replace hX52 := hX52.trans hb; replace hX72 := hX72.trans hb; replace hX147 := hX147.trans hb; replace bO192_0 := BoxAt.ext hb bO192_0; replace bO192_1 := BoxAt.ext hb bO192_1; have hs198 := hb.size; clear hb; have lt199 := bO196_0.lt
        refine ⟨⟨(BoxAt.ext hX13 bO1_0).1, (BoxAt.ext hX13 bO1_1).1, (BoxAt.ext hX13 bO1_2).1, (BoxAt.ext hX13 bO1_3).1, (BoxAt.ext hX13 bO1_4).1, (BoxAt.ext hX13 bO1_5).1, (BoxAt.ext hX13 bO1_6).1⟩, ?_⟩
        have hI203 : IntsAt X197 (some ⟨O196, 0, none⟩) ((([5] : List Nat)).map fun y => ((y : Nat) : Int)) := (.inr ⟨O196, 0, rfl, fun i hi => by
          match i, hi with
          | 0, _ => exact bO196_0.1
          | _ + 1, hi => exact absurd hi (by simp)⟩)
        refine wd_step 3 hR rfl (by kernel_rfl) (by kernel_rfl) (by kernel_rfl) (sn_call (f := 37) (args := #[.int .i64 12, .slice (some ⟨O196, 0, none⟩) 1 1]) (by kernel_rfl) ((strip_c (x := 12) (ys := [5]) _ (by decide) hI203 rfl (by decide) (by decide) (Ext.refl _)).mono ?_))
        rintro e w204 ⟨B200, rfl, hn201, hr202, hb⟩
        replace hE := hE.trans hb; replace hX13 := hX13.trans hb; replace hX26 := hX26.trans hb; replace hX39 := hX39.trans hb; replace hX52 := hX52.trans hb; replace hX72 := hX72.trans hb; replace hX147 := hX147.trans hb; replace bO192_0 := BoxAt.ext hb bO192_0; replace bO192_1 := BoxAt.ext hb bO192_1; replace bO196_0 := BoxAt.ext hb bO196_0; have hs205 := hb.size; clear hb; have lt206 := hr202.lt
        refine ⟨_, rfl, ⟨(BoxAt.ext hX13 bO1_0).1, (BoxAt.ext hX13 bO1_1).1, (BoxAt.ext hX13 bO1_2).1, (BoxAt.ext hX13 bO1_3).1, (BoxAt.ext hX13 bO1_4).1, (BoxAt.ext hX13 bO1_5).1, (BoxAt.ext hX13 bO1_6).1⟩, ?_⟩
        refine wd_step 4 hR rfl (by kernel_rfl) (by kernel_rfl) (by kernel_rfl) (sn_call (f := 26) (args := #[.agg #[.int .i64 200, .int .i64 0, .int .i64 0, .int .i64 20000, .int .i64 10000, .int .i64 0, .int .i64 1], .agg #[.int .i64 0, .int .i64 60], .int .i64 10, .int .i64 1, .agg #[.slice (some ⟨B200, 0, none⟩) 24 24]]) (by kernel_rfl) ((Best_r (o := Swath.o0) (sp := Swath.sp0) (mi := 10) (W := 1) (bt := ((0, 0), 0, false)) _ _ (RowsAt.va hr202 (by kernel_rfl)).aa (Ext.refl _) rfl rfl rfl rfl (best_ex1)).mono ?_))
        rintro e w207 ⟨rfl, hb⟩
        replace hE := hE.trans hb; replace hX13 := hX13.trans hb; replace hX26 := hX26.trans hb; replace hX39 := hX39.trans hb; replace hX52 := hX52.trans hb; replace hX72 := hX72.trans hb; replace hX147 := hX147.trans hb; replace bO192_0 := BoxAt.ext hb bO192_0; replace bO192_1 := BoxAt.ext hb bO192_1; replace bO196_0 := BoxAt.ext hb bO196_0; replace hr202 := hr202.ext hb; have hs208 := hb.size; clear hb
        refine ⟨_, rfl, ⟨(BoxAt.ext hX13 bO1_0).1, (BoxAt.ext hX13 bO1_1).1, (BoxAt.ext hX13 bO1_2).1, (BoxAt.ext hX13 bO1_3).1, (BoxAt.ext hX13 bO1_4).1, (BoxAt.ext hX13 bO1_5).1, (BoxAt.ext hX13 bO1_6).1⟩, ?_⟩
        refine wd_take 5 (.tuple #[.agg #[.int .i64 0, .int .i64 0], .int .i64 0, .bool false, .int .i64 0]) hR rfl (by kernel_rfl) rfl (by kernel_rfl) (fun w _ => by kernel_rfl) (⟨(BoxAt.ext hX13 bO1_0).1, (BoxAt.ext hX13 bO1_1).1, (BoxAt.ext hX13 bO1_2).1, (BoxAt.ext hX13 bO1_3).1, (BoxAt.ext hX13 bO1_4).1, (BoxAt.ext hX13 bO1_5).1, (BoxAt.ext hX13 bO1_6).1⟩) ?_
        refine wd_take 6 (.agg #[.int .i64 0, .int .i64 0]) hR rfl (by kernel_rfl) rfl (by kernel_rfl) (fun w _ => by kernel_rfl) (⟨(BoxAt.ext hX13 bO1_0).1, (BoxAt.ext hX13 bO1_1).1, (BoxAt.ext hX13 bO1_2).1, (BoxAt.ext hX13 bO1_3).1, (BoxAt.ext hX13 bO1_4).1, (BoxAt.ext hX13 bO1_5).1, (BoxAt.ext hX13 bO1_6).1⟩) ?_
        refine wd_take 7 (.int .i64 0) hR rfl (by kernel_rfl) rfl (by kernel_rfl) (fun w _ => by kernel_rfl) (⟨(BoxAt.ext hX13 bO1_0).1, (BoxAt.ext hX13 bO1_1).1, (BoxAt.ext hX13 bO1_2).1, (BoxAt.ext hX13 bO1_3).1, (BoxAt.ext hX13 bO1_4).1, (BoxAt.ext hX13 bO1_5).1, (BoxAt.ext hX13 bO1_6).1⟩) ?_
        refine wd_take 8 (.bool false) hR rfl (by kernel_rfl) rfl (by kernel_rfl) (fun w _ => by kernel_rfl) (⟨(BoxAt.ext hX13 bO1_0).1, (BoxAt.ext hX13 bO1_1).1, (BoxAt.ext hX13 bO1_2).1, (BoxAt.ext hX13 bO1_3).1, (BoxAt.ext hX13 bO1_4).1, (BoxAt.ext hX13 bO1_5).1, (BoxAt.ext hX13 bO1_6).1⟩) ?_
        refine wd_take 9 (.int .i64 0) hR rfl (by kernel_rfl) rfl (by kernel_rfl) (fun w _ => by kernel_rfl) (⟨(BoxAt.ext hX13 bO1_0).1, (BoxAt.ext hX13 bO1_1).1, (BoxAt.ext hX13 bO1_2).1, (BoxAt.ext hX13 bO1_3).1, (BoxAt.ext hX13 bO1_4).1, (BoxAt.ext hX13 bO1_5).1, (BoxAt.ext hX13 bO1_6).1⟩) ?_
        refine wd_step 11 hR rfl (by kernel_rfl) (by kernel_rfl) (by kernel_rfl) (sn_set2 (O := O192) (j := 0) (v := .int .i64 0) (v' := .int .i64 0) (ex_store (p := .pointer (some ⟨O192, 0, none⟩)) (v := .agg #[.int .i64 0, .int .i64 0]) rfl (by kernel_rfl) (by kernel_rfl) (st26 bO192_0.1 bO192_0.2 bO192_1.1 bO192_1.2)) bO192_0 bO192_1 ?_)
        intro X209 ho hv0 hv1 hk
        replace hE := ho.ext hE (T (T hs3 (T hs6 (T hs9 (T hs12 (T hs18 (T hs22 (T hs25 (T hs31 (T hs35 (T hs38 (T hs44 (T hs48 (T hs51 (T hs63 (T hs68 (T hs71 (T hn137 hs149))))))))))))))))) (Nat.le_of_eq hzO192)); replace hX13 := ho.ext hX13 (T (T hs18 (T hs22 (T hs25 (T hs31 (T hs35 (T hs38 (T hs44 (T hs48 (T hs51 (T hs63 (T hs68 (T hs71 (T hn137 hs149))))))))))))) (Nat.le_of_eq hzO192)); replace hX26 := ho.ext hX26 (T (T hs31 (T hs35 (T hs38 (T hs44 (T hs48 (T hs51 (T hs63 (T hs68 (T hs71 (T hn137 hs149)))))))))) (Nat.le_of_eq hzO192)); replace hX39 := ho.ext hX39 (T (T hs44 (T hs48 (T hs51 (T hs63 (T hs68 (T hs71 (T hn137 hs149))))))) (Nat.le_of_eq hzO192)); replace hX52 := ho.ext hX52 (T (T hs63 (T hs68 (T hs71 (T hn137 hs149)))) (Nat.le_of_eq hzO192)); replace hX72 := ho.ext hX72 (T (T hn137 hs149) (Nat.le_of_eq hzO192)); replace hX147 := ho.ext hX147 (T hs149 (Nat.le_of_eq hzO192)); replace bO196_0 := ho.box (Nat.ne_of_lt (Nat.lt_of_lt_of_le lt195 (Nat.le_of_eq hzO196))) bO196_0; replace hr202 := ho.rows (Nat.ne_of_lt (Nat.lt_of_lt_of_le lt195 (T hs198 hn201))) hr202
        have hs210 : w207.heap.size ≤ X209.heap.size := Nat.le_of_eq ho.size.symm
        clear ho hk bO192_0 bO192_1
        have bO192_0 := hv0; clear hv0
        have bO192_1 := hv1; clear hv1
        refine ⟨⟨(BoxAt.ext hX13 bO1_0).1, (BoxAt.ext hX13 bO1_1).1, (BoxAt.ext hX13 bO1_2).1, (BoxAt.ext hX13 bO1_3).1, (BoxAt.ext hX13 bO1_4).1, (BoxAt.ext hX13 bO1_5).1, (BoxAt.ext hX13 bO1_6).1⟩, ?_⟩
        refine wd_take 12 (.int .i64 0) hR rfl (by kernel_rfl) rfl (by kernel_rfl) (fun w _ => by kernel_rfl) (⟨(BoxAt.ext hX13 bO1_0).1, (BoxAt.ext hX13 bO1_1).1, (BoxAt.ext hX13 bO1_2).1, (BoxAt.ext hX13 bO1_3).1, (BoxAt.ext hX13 bO1_4).1, (BoxAt.ext hX13 bO1_5).1, (BoxAt.ext hX13 bO1_6).1⟩) ?_
        refine wd_take 13 (.bool false) hR rfl (by kernel_rfl) rfl (by kernel_rfl) (fun w _ => by kernel_rfl) (⟨(BoxAt.ext hX13 bO1_0).1, (BoxAt.ext hX13 bO1_1).1, (BoxAt.ext hX13 bO1_2).1, (BoxAt.ext hX13 bO1_3).1, (BoxAt.ext hX13 bO1_4).1, (BoxAt.ext hX13 bO1_5).1, (BoxAt.ext hX13 bO1_6).1⟩) ?_
        refine wd_take 14 (.int .i64 0) hR rfl (by kernel_rfl) rfl (by kernel_rfl) (fun w _ => by kernel_rfl) (⟨(BoxAt.ext hX13 bO1_0).1, (BoxAt.ext hX13 bO1_1).1, (BoxAt.ext hX13 bO1_2).1, (BoxAt.ext hX13 bO1_3).1, (BoxAt.ext hX13 bO1_4).1, (BoxAt.ext hX13 bO1_5).1, (BoxAt.ext hX13 bO1_6).1⟩) ?_
        refine wd_end hL hR hK (by kernel_rfl) ?_
        exact qw_leaf hJ [1, 2, 3, 4, 5, 6, 7, 8, 9, 10, 11, 12, 13, 14, 17, 18] (ws' := [(1, .pointer (some ⟨O1, 0, none⟩)), (2, .pointer (some ⟨O7, 0, none⟩)), (3, .pointer (some ⟨O20, 0, none⟩)), (4, .int .i64 0), (5, .pointer (some ⟨O33, 0, none⟩)), (6, .int .i64 0), (7, .pointer (some ⟨O46, 0, none⟩)), (8, .int .i64 0), (9, .pointer (some ⟨O66, 0, none⟩)), (10, .int .i64 0), (11, .pointer (some ⟨O88, 0, none⟩)), (12, .int .i64 2), (13, .bool true), (14, .int .i64 0), (17, .bool false), (18, .int .i64 0)]) (by kernel_rfl) ⟨O196, B200, O192, rfl, hE, hX13, hX26, hX39, hX52, hX72, hX147, bO196_0, hr202, bO192_0, bO192_1, (T hs149 (T hs194 (T hs198 (T hs205 (T hs208 hs210))))), (T (T hs149 hs194) (Nat.le_of_eq hzO196)), (T (T hs149 (T hs194 hs198)) hn201), (T hs149 (Nat.le_of_eq hzO192)), Lib.hid (Nat.ne_of_lt (Nat.lt_of_lt_of_le lt199 hn201)), Lib.hid (Nat.ne_of_gt (Nat.lt_of_lt_of_le lt195 (Nat.le_of_eq hzO196))), Lib.hid (Nat.ne_of_gt (Nat.lt_of_lt_of_le lt195 (T hs198 hn201)))⟩
    ·
      clear hE hX13 hX26 hX39 hX52 hX72 hX147
      rintro L ws Y211 ⟨O150, B154, O163, rfl, hE, hX13, hX26, hX39, hX52, hX72, hX147, bO150_0, hr156, bO163_0, bO163_1, hn212, hn213, hn214, hn215, hn216, hn217, hn218⟩
      have lt219 := bO150_0.lt; have lt220 := hr156.lt; have lt221 := bO163_0.lt; refine qw_then ?_
      refine cw_clean [1, 2, 3, 4, 5, 6, 7, 8, 9, 10, 11, 12, 13, 14, 17, 18] (ws' := [(1, .pointer (some ⟨O1, 0, none⟩)), (2, .pointer (some ⟨O7, 0, none⟩)), (3, .pointer (some ⟨O20, 0, none⟩)), (4, .int .i64 0), (5, .pointer (some ⟨O33, 0, none⟩)), (6, .int .i64 0), (7, .pointer (some ⟨O46, 0, none⟩)), (8, .int .i64 0), (9, .pointer (some ⟨O66, 0, none⟩)), (10, .int .i64 0), (11, .pointer (some ⟨O88, 0, none⟩)), (12, .int .i64 2), (13, .bool true), (14, .int .i64 0), (17, .bool false), (18, .int .i64 0)]) (by kernel_rfl) (fun L => ?_)
      refine cw_seq ?_
      have hX222 : Ext Y211 Y211 := Ext.refl _
      refine cw_plain ?_
      refine pl_take (.agg #[.int .i64 200, .int .i64 0, .int .i64 0, .int .i64 20000, .int .i64 10000, .int .i64 0, .int .i64 1]) rfl (by kernel_rfl) (by kernel_rfl) (by kernel_rfl) (ex_load rfl (by kernel_rfl) (ld24 ((BoxAt.ext hX13 bO1_0).1) ((BoxAt.ext hX13 bO1_1).1) ((BoxAt.ext hX13 bO1_2).1) ((BoxAt.ext hX13 bO1_3).1) ((BoxAt.ext hX13 bO1_4).1) ((BoxAt.ext hX13 bO1_5).1) ((BoxAt.ext hX13 bO1_6).1))) ?_
      refine pl_take (.agg #[.int .i64 10, .int .i64 20]) rfl (by kernel_rfl) (by kernel_rfl) (by kernel_rfl) (ex_load rfl (by kernel_rfl) (ld26 ((BoxAt.ext hX13 bO7_0).1) ((BoxAt.ext hX13 bO7_1).1))) ?_
      refine pS (sn_call (f := 19) (args := #[.agg #[.int .i64 200, .int .i64 0, .int .i64 0, .int .i64 20000, .int .i64 10000, .int .i64 0, .int .i64 1], .agg #[.int .i64 10, .int .i64 20], .int .i64 2]) (by kernel_rfl) ((Suns_y (o := Swath.o0) (s := Swath.s0) (lk := 2) _ (by kernel_rfl)).mono ?_))
      rintro e w223 ⟨rfl, hb⟩
      replace hE := hE.trans hb; replace hX13 := hX13.trans hb; replace hX26 := hX26.trans hb; replace hX39 := hX39.trans hb; replace hX52 := hX52.trans hb; replace hX72 := hX72.trans hb; replace hX147 := hX147.trans hb; replace hX222 := hX222.trans hb; have hs224 := hb.size; clear hb
      refine ⟨_, rfl, ?_⟩
      refine pT (.tuple #[.int .i64 ((Swath.suns Swath.o0 Swath.s0 2).1 : Int), .int .i64 ((Swath.suns Swath.o0 Swath.s0 2).2 : Int), .int .i64 0]) ?_
      refine pT (.int .i64 ((Swath.suns Swath.o0 Swath.s0 2).1 : Int)) ?_
      refine pT (.int .i64 ((Swath.suns Swath.o0 Swath.s0 2).2 : Int)) ?_
      refine pT (.int .i64 0) ?_
      refine pT (.int .i64 ((Swath.suns Swath.o0 Swath.s0 2).1 : Int)) ?_
      refine pT (.int .i64 ((Swath.suns Swath.o0 Swath.s0 2).2 : Int)) ?_
      refine pT (.int .i64 0) ?_
      refine pl_nil ?_; refine qw_then ?_
      refine cw_clean [1, 2, 3, 4, 5, 6, 7, 8, 9, 10, 11, 12, 13, 14, 17, 18, 19, 20, 21] (ws' := [(1, .pointer (some ⟨O1, 0, none⟩)), (2, .pointer (some ⟨O7, 0, none⟩)), (3, .pointer (some ⟨O20, 0, none⟩)), (4, .int .i64 0), (5, .pointer (some ⟨O33, 0, none⟩)), (6, .int .i64 0), (7, .pointer (some ⟨O46, 0, none⟩)), (8, .int .i64 0), (9, .pointer (some ⟨O66, 0, none⟩)), (10, .int .i64 0), (11, .pointer (some ⟨O88, 0, none⟩)), (12, .int .i64 2), (13, .bool true), (14, .int .i64 0), (17, .bool false), (18, .int .i64 0), (19, .int .i64 ((Swath.suns Swath.o0 Swath.s0 2).1 : Int)), (20, .int .i64 ((Swath.suns Swath.o0 Swath.s0 2).2 : Int)), (21, .int .i64 0)]) (by kernel_rfl) (fun L => ?_)
      refine cw_seq ?_
      have hX225 : Ext w223 w223 := Ext.refl _
      refine cw_plain ?_
      refine pl_take (.agg #[.int .i64 200, .int .i64 0, .int .i64 0, .int .i64 20000, .int .i64 10000, .int .i64 0, .int .i64 1]) rfl (by kernel_rfl) (by kernel_rfl) (by kernel_rfl) (ex_load rfl (by kernel_rfl) (ld24 ((BoxAt.ext hX13 bO1_0).1) ((BoxAt.ext hX13 bO1_1).1) ((BoxAt.ext hX13 bO1_2).1) ((BoxAt.ext hX13 bO1_3).1) ((BoxAt.ext hX13 bO1_4).1) ((BoxAt.ext hX13 bO1_5).1) ((BoxAt.ext hX13 bO1_6).1))) ?_
      refine pl_take (.agg #[.int .i64 10, .int .i64 20]) rfl (by kernel_rfl) (by kernel_rfl) (by kernel_rfl) (ex_load rfl (by kernel_rfl) (ld26 ((BoxAt.ext hX13 bO7_0).1) ((BoxAt.ext hX13 bO7_1).1))) ?_
      refine pS (sn_call (f := 14) (args := #[.agg #[.int .i64 200, .int .i64 0, .int .i64 0, .int .i64 20000, .int .i64 10000, .int .i64 0, .int .i64 1], .agg #[.int .i64 10, .int .i64 20], .int .i64 0, .int .i64 2]) (by kernel_rfl) ((Shown_n (o := Swath.o0) (s := Swath.s0) (lk := 0) (d := 2) _ (by kernel_rfl)).mono ?_))
      rintro e w226 ⟨rfl, hb⟩
      replace hE := hE.trans hb; replace hX13 := hX13.trans hb; replace hX26 := hX26.trans hb; replace hX39 := hX39.trans hb; replace hX52 := hX52.trans hb; replace hX72 := hX72.trans hb; replace hX147 := hX147.trans hb; replace hX222 := hX222.trans hb; replace hX225 := hX225.trans hb; have hs227 := hb.size; clear hb
      refine ⟨_, rfl, ?_⟩
      refine pT (.tuple #[.agg #[.slice none 0 0], .int .i64 80]) ?_
      refine pT (.agg #[.slice none 0 0]) ?_
      refine pT (.int .i64 80) ?_
      refine pS (sn_new (us := #[.slice none 0 0]) (t := 31) (by kernel_rfl) ?_)
      intro O228 X229 hO hOs hb hbx
      have hzO228 := hO; have hyO228 := hOs; clear hO hOs
      have bO228_0 : BoxAt X229 O228 0 (.slice none 0 0) := hbx 0 _ rfl
      clear hbx; replace hE := hE.trans hb; replace hX13 := hX13.trans hb; replace hX26 := hX26.trans hb; replace hX39 := hX39.trans hb; replace hX52 := hX52.trans hb; replace hX72 := hX72.trans hb; replace hX147 := hX147.trans hb; replace hX222 := hX222.trans hb; replace hX225 := hX225.trans hb; have hs230 := hb.size; clear hb; have lt231 := bO228_0.lt
      refine pl_put rfl (by kernel_rfl) (by kernel_rfl) (sn_set (O := O228) (j := 0) (v := .slice none 0 0) (ex_store (p := .pointer (some ⟨O228, 0, none⟩)) (v := .agg #[.slice none 0 0]) rfl (by kernel_rfl) (by kernel_rfl) (st31 bO228_0.1 bO228_0.2)) bO228_0 ?_)
      intro X232 ho hv0 hk
      replace hE := ho.ext hE (T (T hs3 (T hs6 (T hs9 (T hs12 (T hs18 (T hs22 (T hs25 (T hs31 (T hs35 (T hs38 (T hs44 (T hs48 (T hs51 (T hs63 (T hs68 (T hs71 (T hn137 (T hn212 (T hs224 hs227))))))))))))))))))) (Nat.le_of_eq hzO228)); replace hX13 := ho.ext hX13 (T (T hs18 (T hs22 (T hs25 (T hs31 (T hs35 (T hs38 (T hs44 (T hs48 (T hs51 (T hs63 (T hs68 (T hs71 (T hn137 (T hn212 (T hs224 hs227))))))))))))))) (Nat.le_of_eq hzO228)); replace hX26 := ho.ext hX26 (T (T hs31 (T hs35 (T hs38 (T hs44 (T hs48 (T hs51 (T hs63 (T hs68 (T hs71 (T hn137 (T hn212 (T hs224 hs227)))))))))))) (Nat.le_of_eq hzO228)); replace hX39 := ho.ext hX39 (T (T hs44 (T hs48 (T hs51 (T hs63 (T hs68 (T hs71 (T hn137 (T hn212 (T hs224 hs227))))))))) (Nat.le_of_eq hzO228)); replace hX52 := ho.ext hX52 (T (T hs63 (T hs68 (T hs71 (T hn137 (T hn212 (T hs224 hs227)))))) (Nat.le_of_eq hzO228)); replace hX72 := ho.ext hX72 (T (T hn137 (T hn212 (T hs224 hs227))) (Nat.le_of_eq hzO228)); replace hX147 := ho.ext hX147 (T (T hn212 (T hs224 hs227)) (Nat.le_of_eq hzO228)); replace hX222 := ho.ext hX222 (T (T hs224 hs227) (Nat.le_of_eq hzO228)); replace hX225 := ho.ext hX225 (T hs227 (Nat.le_of_eq hzO228))
      have hs233 : X229.heap.size ≤ X232.heap.size := Nat.le_of_eq ho.size.symm
      clear ho hk bO228_0
      have bO228_0 := hv0; clear hv0
      refine pT (.int .i64 80) ?_
      refine pl_nil ?_; refine qw_then ?_
      refine cw_clean [1, 2, 3, 4, 5, 6, 7, 8, 9, 10, 11, 12, 13, 14, 17, 18, 19, 20, 21, 23] (ws' := [(1, .pointer (some ⟨O1, 0, none⟩)), (2, .pointer (some ⟨O7, 0, none⟩)), (3, .pointer (some ⟨O20, 0, none⟩)), (4, .int .i64 0), (5, .pointer (some ⟨O33, 0, none⟩)), (6, .int .i64 0), (7, .pointer (some ⟨O46, 0, none⟩)), (8, .int .i64 0), (9, .pointer (some ⟨O66, 0, none⟩)), (10, .int .i64 0), (11, .pointer (some ⟨O88, 0, none⟩)), (12, .int .i64 2), (13, .bool true), (14, .int .i64 0), (17, .bool false), (18, .int .i64 0), (19, .int .i64 ((Swath.suns Swath.o0 Swath.s0 2).1 : Int)), (20, .int .i64 ((Swath.suns Swath.o0 Swath.s0 2).2 : Int)), (21, .int .i64 0), (23, .int .i64 80)]) (by kernel_rfl) (fun L => ?_)
      refine cw_seq ?_; refine cw_seq ?_; refine cw_plain ?_
      refine pT (.int .i64 0) ?_
      refine pT (.bool false) ?_
      refine pT (.bool false) ?_
      refine pT (.int .i64 0) ?_
      refine pT (.bool false) ?_
      refine pT (.bool false) ?_
      refine pT (.bool false) ?_
      refine pT (.int .i64 0) ?_
      refine pT (.bool false) ?_
      refine pT (.bool false) ?_
      refine pT (.bool false) ?_
      refine pT (.int .i64 0) ?_
      refine pT (.bool false) ?_
      refine pT (.bool false) ?_
      refine pT (.bool false) ?_
      refine pT (.int .i64 0) ?_
      refine pT (.bool false) ?_
      refine pT (.bool false) ?_
      refine pT (.bool false) ?_
      refine pT (.int .i64 0) ?_
      refine pT (.bool false) ?_
      refine pT (.bool false) ?_
      refine pT (.bool false) ?_
      refine pT (.int .i64 0) ?_
      refine pT (.bool false) ?_
      refine pT (.bool false) ?_
      refine pT (.bool false) ?_
      refine pT (.int .i64 80) ?_
      refine pT (.bool false) ?_
      refine pT (.bool false) ?_
      refine pl_nil ?_; refine qw_then ?_
      refine cw_clean [1, 2, 3, 5, 7, 9, 11, 12, 13, 17, 19, 20, 114] (ws' := [(1, .pointer (some ⟨O1, 0, none⟩)), (2, .pointer (some ⟨O7, 0, none⟩)), (3, .pointer (some ⟨O20, 0, none⟩)), (5, .pointer (some ⟨O33, 0, none⟩)), (7, .pointer (some ⟨O46, 0, none⟩)), (9, .pointer (some ⟨O66, 0, none⟩)), (11, .pointer (some ⟨O88, 0, none⟩)), (12, .int .i64 2), (13, .bool true), (17, .bool false), (19, .int .i64 ((Swath.suns Swath.o0 Swath.s0 2).1 : Int)), (20, .int .i64 ((Swath.suns Swath.o0 Swath.s0 2).2 : Int)), (114, .bool false)]) (by kernel_rfl) (fun L => ?_)
      refine cw_f (by kernel_rfl) ?_
      refine cw_skip ?_
      refine qw_then ?_; refine cw_seq ?_
      have hX234 : Ext X232 X232 := Ext.refl _
      refine cw_draw [(some 115, [3], []), (some 116, [], []), (some 117, [116], [1]), (some 118, [115, 117], [0, 2, 2]), (some 119, [118], [3, 3]), (some 120, [5, 119], [4]), (some 121, [119], [4]), (some 122, [121, 119], [6, 4, 4]), (some 123, [120, 122, 119], [5, 7, 7, 4]), (some 124, [119, 123], [4, 8]), (some 125, [124], [9, 8]), (some 126, [7, 125], [10]), (some 127, [125], [10]), (some 128, [127, 125], [12, 10, 10]), (some 129, [126, 128, 125], [11, 13, 13, 10]), (some 130, [125, 129], [10, 14]), (some 24, [130], [15, 14, 0, 1, 2, 3, 4, 5, 6, 7, 8, 9, 10, 11, 12, 13, 14, 15])] (fun w' => w'.cell? ⟨O20, 0, none⟩ = some (.slice (some ⟨B14, 0, none⟩) 24 24) ∧ w'.cell? ⟨O33, 0, none⟩ = some (.slice (some ⟨B27, 0, none⟩) 24 24) ∧ w'.cell? ⟨O46, 0, none⟩ = some (.slice (some ⟨B40, 0, none⟩) 24 24)) (by kernel_rfl) (by kernel_rfl) (by kernel_rfl) (by kernel_rfl) ((calm_then calm_body)) (⟨(BoxAt.ext hX26 bO20_0).1, (BoxAt.ext hX39 bO33_0).1, (BoxAt.ext hX52 bO46_0).1⟩) (fun ops Q X235 hb hL hR hK => ?_)
      replace hE := hE.trans hb; replace hX13 := hX13.trans hb; replace hX26 := hX26.trans hb; replace hX39 := hX39.trans hb; replace hX52 := hX52.trans hb; replace hX72 := hX72.trans hb; replace hX147 := hX147.trans hb; replace hX222 := hX222.trans hb; replace hX225 := hX225.trans hb; replace hX234 := hX234.trans hb; have hs236 := hb.size; clear hb
      refine wd_take 0 (.agg #[.slice (some ⟨B14, 0, none⟩) 24 24]) hR rfl (by kernel_rfl) rfl (by kernel_rfl) (fun w hS => ex_load rfl (by kernel_rfl) (ld31 (hS.1))) (⟨(BoxAt.ext hX26 bO20_0).1, (BoxAt.ext hX39 bO33_0).1, (BoxAt.ext hX52 bO46_0).1⟩) ?_
      refine wd_step 1 hR rfl (by kernel_rfl) (by kernel_rfl) (by kernel_rfl) (sn_newS (us := #[.int .i64 2, .int .i64 3]) (t := 3) (k := 2) (c := 2) (by kernel_rfl) ?_)
      intro O237 X238 hO hOs hb hbx
      have hzO237 := hO; have hyO237 := hOs; clear hO hOs
      have bO237_0 : BoxAt X238 O237 0 (.int .i64 2) := hbx 0 _ rfl
      have bO237_1 : BoxAt X238 O237 1 (.int .i64 3) := hbx 1 _ rfl
      clear hbx; replace hE := hE.trans hb; replace hX13 := hX13.trans hb; replace hX26 := hX26.trans hb; replace hX39 := hX39.trans hb; replace hX52 := hX52.trans hb; replace hX72 := hX72.trans hb; replace hX147 := hX147.trans hb; replace hX222 := hX222.trans hb; replace hX225 := hX225.trans hb; replace hX234 := hX234.trans hb; have hs239 := hb.size; clear hb; have lt240 := bO237_0.lt
      refine ⟨⟨(BoxAt.ext hX26 bO20_0).1, (BoxAt.ext hX39 bO33_0).1, (BoxAt.ext hX52 bO46_0).1⟩, ?_⟩
      have hI244 : IntsAt X238 (some ⟨O237, 0, none⟩) ((([2, 3] : List Nat)).map fun y => ((y : Nat) : Int)) := (.inr ⟨O237, 0, rfl, fun i hi => by
        match i, hi with
        | 0, _ => exact bO237_0.1
        | 1, _ => exact bO237_1.1
        | _ + 2, hi => exact absurd hi (by simp)⟩)
      refine wd_step 2 hR rfl (by kernel_rfl) (by kernel_rfl) (by kernel_rfl) (sn_call (f := 37) (args := #[.int .i64 10, .slice (some ⟨O237, 0, none⟩) 2 2]) (by kernel_rfl) ((strip_c (x := 10) (ys := [2, 3]) _ (by decide) hI244 rfl (by decide) (by decide) (Ext.refl _)).mono ?_))
      rintro e w245 ⟨B241, rfl, hn242, hr243, hb⟩
      replace hE := hE.trans hb; replace hX13 := hX13.trans hb; replace hX26 := hX26.trans hb; replace hX39 := hX39.trans hb; replace hX52 := hX52.trans hb; replace hX72 := hX72.trans hb; replace hX147 := hX147.trans hb; replace hX222 := hX222.trans hb; replace hX225 := hX225.trans hb; replace hX234 := hX234.trans hb; replace bO237_0 := BoxAt.ext hb bO237_0; replace bO237_1 := BoxAt.ext hb bO237_1; have hs246 := hb.size; clear hb; have lt247 := hr243.lt
      refine ⟨_, rfl, ⟨(BoxAt.ext hX26 bO20_0).1, (BoxAt.ext hX39 bO33_0).1, (BoxAt.ext hX52 bO46_0).1⟩, ?_⟩
      refine wd_step 3 hR rfl (by kernel_rfl) (by kernel_rfl) (by kernel_rfl) (sn_call (f := 16) (args := #[.agg #[.slice (some ⟨B14, 0, none⟩) 24 24], .agg #[.slice (some ⟨B241, 0, none⟩) 24 24]]) (by kernel_rfl) ((rSame_v (r := true) _ _ _ (RowsAt.va (hr16.ext hX26) (by kernel_rfl)) (RowsAt.va hr243 (by kernel_rfl)) (by kernel_rfl)).mono ?_))
      rintro e w248 ⟨rfl, hb⟩
      replace hE := hE.trans hb; replace hX13 := hX13.trans hb; replace hX26 := hX26.trans hb; replace hX39 := hX39.trans hb; replace hX52 := hX52.trans hb; replace hX72 := hX72.trans hb; replace hX147 := hX147.trans hb; replace hX222 := hX222.trans hb; replace hX225 := hX225.trans hb; replace hX234 := hX234.trans hb; replace bO237_0 := BoxAt.ext hb bO237_0; replace bO237_1 := BoxAt.ext hb bO237_1; replace hr243 := hr243.ext hb; have hs249 := hb.size; clear hb
      refine ⟨_, rfl, ⟨(BoxAt.ext hX26 bO20_0).1, (BoxAt.ext hX39 bO33_0).1, (BoxAt.ext hX52 bO46_0).1⟩, ?_⟩
      refine wd_take 4 (.bool true) hR rfl (by kernel_rfl) rfl (by kernel_rfl) (fun w _ => by kernel_rfl) (⟨(BoxAt.ext hX26 bO20_0).1, (BoxAt.ext hX39 bO33_0).1, (BoxAt.ext hX52 bO46_0).1⟩) ?_
      refine wd_take 5 (.agg #[.slice (some ⟨B27, 0, none⟩) 24 24]) hR rfl (by kernel_rfl) rfl (by kernel_rfl) (fun w hS => ex_load rfl (by kernel_rfl) (ld31 (hS.2.1))) (⟨(BoxAt.ext hX26 bO20_0).1, (BoxAt.ext hX39 bO33_0).1, (BoxAt.ext hX52 bO46_0).1⟩) ?_
      refine wd_step 6 hR rfl (by kernel_rfl) (by kernel_rfl) (by kernel_rfl) (sn_newS (us := #[.int .i64 1, .int .i64 2, .int .i64 3]) (t := 3) (k := 3) (c := 3) (by kernel_rfl) ?_)
      intro O250 X251 hO hOs hb hbx
      have hzO250 := hO; have hyO250 := hOs; clear hO hOs
      have bO250_0 : BoxAt X251 O250 0 (.int .i64 1) := hbx 0 _ rfl
      have bO250_1 : BoxAt X251 O250 1 (.int .i64 2) := hbx 1 _ rfl
      have bO250_2 : BoxAt X251 O250 2 (.int .i64 3) := hbx 2 _ rfl
      clear hbx; replace hE := hE.trans hb; replace hX13 := hX13.trans hb; replace hX26 := hX26.trans hb; replace hX39 := hX39.trans hb; replace hX52 := hX52.trans hb; replace hX72 := hX72.trans hb; replace hX147 := hX147.trans hb; replace hX222 := hX222.trans hb; replace hX225 := hX225.trans hb; replace hX234 := hX234.trans hb; replace bO237_0 := BoxAt.ext hb bO237_0; replace bO237_1 := BoxAt.ext hb bO237_1; replace hr243 := hr243.ext hb; have hs252 := hb.size; clear hb; have lt253 := bO250_0.lt
      refine ⟨⟨(BoxAt.ext hX26 bO20_0).1, (BoxAt.ext hX39 bO33_0).1, (BoxAt.ext hX52 bO46_0).1⟩, ?_⟩
      have hI257 : IntsAt X251 (some ⟨O250, 0, none⟩) ((([1, 2, 3] : List Nat)).map fun y => ((y : Nat) : Int)) := (.inr ⟨O250, 0, rfl, fun i hi => by
        match i, hi with
        | 0, _ => exact bO250_0.1
        | 1, _ => exact bO250_1.1
        | 2, _ => exact bO250_2.1
        | _ + 3, hi => exact absurd hi (by simp)⟩)
      refine wd_step 7 hR rfl (by kernel_rfl) (by kernel_rfl) (by kernel_rfl) (sn_call (f := 37) (args := #[.int .i64 10, .slice (some ⟨O250, 0, none⟩) 3 3]) (by kernel_rfl) ((strip_c (x := 10) (ys := [1, 2, 3]) _ (by decide) hI257 rfl (by decide) (by decide) (Ext.refl _)).mono ?_))
      rintro e w258 ⟨B254, rfl, hn255, hr256, hb⟩
      replace hE := hE.trans hb; replace hX13 := hX13.trans hb; replace hX26 := hX26.trans hb; replace hX39 := hX39.trans hb; replace hX52 := hX52.trans hb; replace hX72 := hX72.trans hb; replace hX147 := hX147.trans hb; replace hX222 := hX222.trans hb; replace hX225 := hX225.trans hb; replace hX234 := hX234.trans hb; replace bO237_0 := BoxAt.ext hb bO237_0; replace bO237_1 := BoxAt.ext hb bO237_1; replace hr243 := hr243.ext hb; replace bO250_0 := BoxAt.ext hb bO250_0; replace bO250_1 := BoxAt.ext hb bO250_1; replace bO250_2 := BoxAt.ext hb bO250_2; have hs259 := hb.size; clear hb; have lt260 := hr256.lt
      refine ⟨_, rfl, ⟨(BoxAt.ext hX26 bO20_0).1, (BoxAt.ext hX39 bO33_0).1, (BoxAt.ext hX52 bO46_0).1⟩, ?_⟩
      refine wd_step 8 hR rfl (by kernel_rfl) (by kernel_rfl) (by kernel_rfl) (sn_call (f := 16) (args := #[.agg #[.slice (some ⟨B27, 0, none⟩) 24 24], .agg #[.slice (some ⟨B254, 0, none⟩) 24 24]]) (by kernel_rfl) ((rSame_v (r := true) _ _ _ (RowsAt.va (hr29.ext hX39) (by kernel_rfl)) (RowsAt.va hr256 (by kernel_rfl)) (by kernel_rfl)).mono ?_))
      rintro e w261 ⟨rfl, hb⟩
      replace hE := hE.trans hb; replace hX13 := hX13.trans hb; replace hX26 := hX26.trans hb; replace hX39 := hX39.trans hb; replace hX52 := hX52.trans hb; replace hX72 := hX72.trans hb; replace hX147 := hX147.trans hb; replace hX222 := hX222.trans hb; replace hX225 := hX225.trans hb; replace hX234 := hX234.trans hb; replace bO237_0 := BoxAt.ext hb bO237_0; replace bO237_1 := BoxAt.ext hb bO237_1; replace hr243 := hr243.ext hb; replace bO250_0 := BoxAt.ext hb bO250_0; replace bO250_1 := BoxAt.ext hb bO250_1; replace bO250_2 := BoxAt.ext hb bO250_2; replace hr256 := hr256.ext hb; have hs262 := hb.size; clear hb
      refine ⟨_, rfl, ⟨(BoxAt.ext hX26 bO20_0).1, (BoxAt.ext hX39 bO33_0).1, (BoxAt.ext hX52 bO46_0).1⟩, ?_⟩
      refine wd_take 9 (.bool true) hR rfl (by kernel_rfl) rfl (by kernel_rfl) (fun w _ => by kernel_rfl) (⟨(BoxAt.ext hX26 bO20_0).1, (BoxAt.ext hX39 bO33_0).1, (BoxAt.ext hX52 bO46_0).1⟩) ?_
      refine wd_take 10 (.bool true) hR rfl (by kernel_rfl) rfl (by kernel_rfl) (fun w _ => by kernel_rfl) (⟨(BoxAt.ext hX26 bO20_0).1, (BoxAt.ext hX39 bO33_0).1, (BoxAt.ext hX52 bO46_0).1⟩) ?_
      refine wd_take 11 (.agg #[.slice (some ⟨B40, 0, none⟩) 24 24]) hR rfl (by kernel_rfl) rfl (by kernel_rfl) (fun w hS => ex_load rfl (by kernel_rfl) (ld31 (hS.2.2))) (⟨(BoxAt.ext hX26 bO20_0).1, (BoxAt.ext hX39 bO33_0).1, (BoxAt.ext hX52 bO46_0).1⟩) ?_
      refine wd_step 12 hR rfl (by kernel_rfl) (by kernel_rfl) (by kernel_rfl) (sn_newS (us := #[.int .i64 2, .int .i64 3, .int .i64 4]) (t := 3) (k := 3) (c := 3) (by kernel_rfl) ?_)
      intro O263 X264 hO hOs hb hbx
      have hzO263 := hO; have hyO263 := hOs; clear hO hOs
      have bO263_0 : BoxAt X264 O263 0 (.int .i64 2) := hbx 0 _ rfl
      have bO263_1 : BoxAt X264 O263 1 (.int .i64 3) := hbx 1 _ rfl
      have bO263_2 : BoxAt X264 O263 2 (.int .i64 4) := hbx 2 _ rfl
      clear hbx; replace hE := hE.trans hb; replace hX13 := hX13.trans hb; replace hX26 := hX26.trans hb; replace hX39 := hX39.trans hb; replace hX52 := hX52.trans hb; replace hX72 := hX72.trans hb; replace hX147 := hX147.trans hb; replace hX222 := hX222.trans hb; replace hX225 := hX225.trans hb; replace hX234 := hX234.trans hb; replace bO237_0 := BoxAt.ext hb bO237_0; replace bO237_1 := BoxAt.ext hb bO237_1; replace hr243 := hr243.ext hb; replace bO250_0 := BoxAt.ext hb bO250_0; replace bO250_1 := BoxAt.ext hb bO250_1; replace bO250_2 := BoxAt.ext hb bO250_2; replace hr256 := hr256.ext hb; have hs265 := hb.size; clear hb; have lt266 := bO263_0.lt
      refine ⟨⟨(BoxAt.ext hX26 bO20_0).1, (BoxAt.ext hX39 bO33_0).1, (BoxAt.ext hX52 bO46_0).1⟩, ?_⟩
      have hI270 : IntsAt X264 (some ⟨O263, 0, none⟩) ((([2, 3, 4] : List Nat)).map fun y => ((y : Nat) : Int)) := (.inr ⟨O263, 0, rfl, fun i hi => by
        match i, hi with
        | 0, _ => exact bO263_0.1
        | 1, _ => exact bO263_1.1
        | 2, _ => exact bO263_2.1
        | _ + 3, hi => exact absurd hi (by simp)⟩)
      refine wd_step 13 hR rfl (by kernel_rfl) (by kernel_rfl) (by kernel_rfl) (sn_call (f := 37) (args := #[.int .i64 10, .slice (some ⟨O263, 0, none⟩) 3 3]) (by kernel_rfl) ((strip_c (x := 10) (ys := [2, 3, 4]) _ (by decide) hI270 rfl (by decide) (by decide) (Ext.refl _)).mono ?_))
      rintro e w271 ⟨B267, rfl, hn268, hr269, hb⟩
      replace hE := hE.trans hb; replace hX13 := hX13.trans hb; replace hX26 := hX26.trans hb; replace hX39 := hX39.trans hb; replace hX52 := hX52.trans hb; replace hX72 := hX72.trans hb; replace hX147 := hX147.trans hb; replace hX222 := hX222.trans hb; replace hX225 := hX225.trans hb; replace hX234 := hX234.trans hb; replace bO237_0 := BoxAt.ext hb bO237_0; replace bO237_1 := BoxAt.ext hb bO237_1; replace hr243 := hr243.ext hb; replace bO250_0 := BoxAt.ext hb bO250_0; replace bO250_1 := BoxAt.ext hb bO250_1; replace bO250_2 := BoxAt.ext hb bO250_2; replace hr256 := hr256.ext hb; replace bO263_0 := BoxAt.ext hb bO263_0; replace bO263_1 := BoxAt.ext hb bO263_1; replace bO263_2 := BoxAt.ext hb bO263_2; have hs272 := hb.size; clear hb; have lt273 := hr269.lt
      refine ⟨_, rfl, ⟨(BoxAt.ext hX26 bO20_0).1, (BoxAt.ext hX39 bO33_0).1, (BoxAt.ext hX52 bO46_0).1⟩, ?_⟩
      refine wd_step 14 hR rfl (by kernel_rfl) (by kernel_rfl) (by kernel_rfl) (sn_call (f := 16) (args := #[.agg #[.slice (some ⟨B40, 0, none⟩) 24 24], .agg #[.slice (some ⟨B267, 0, none⟩) 24 24]]) (by kernel_rfl) ((rSame_v (r := true) _ _ _ (RowsAt.va (hr42.ext hX52) (by kernel_rfl)) (RowsAt.va hr269 (by kernel_rfl)) (by kernel_rfl)).mono ?_))
      rintro e w274 ⟨rfl, hb⟩
      replace hE := hE.trans hb; replace hX13 := hX13.trans hb; replace hX26 := hX26.trans hb; replace hX39 := hX39.trans hb; replace hX52 := hX52.trans hb; replace hX72 := hX72.trans hb; replace hX147 := hX147.trans hb; replace hX222 := hX222.trans hb; replace hX225 := hX225.trans hb; replace hX234 := hX234.trans hb; replace bO237_0 := BoxAt.ext hb bO237_0; replace bO237_1 := BoxAt.ext hb bO237_1; replace hr243 := hr243.ext hb; replace bO250_0 := BoxAt.ext hb bO250_0; replace bO250_1 := BoxAt.ext hb bO250_1; replace bO250_2 := BoxAt.ext hb bO250_2; replace hr256 := hr256.ext hb; replace bO263_0 := BoxAt.ext hb bO263_0; replace bO263_1 := BoxAt.ext hb bO263_1; replace bO263_2 := BoxAt.ext hb bO263_2; replace hr269 := hr269.ext hb; have hs275 := hb.size; clear hb
      refine ⟨_, rfl, ⟨(BoxAt.ext hX26 bO20_0).1, (BoxAt.ext hX39 bO33_0).1, (BoxAt.ext hX52 bO46_0).1⟩, ?_⟩
      refine wd_take 15 (.bool true) hR rfl (by kernel_rfl) rfl (by kernel_rfl) (fun w _ => by kernel_rfl) (⟨(BoxAt.ext hX26 bO20_0).1, (BoxAt.ext hX39 bO33_0).1, (BoxAt.ext hX52 bO46_0).1⟩) ?_
      refine wd_take 16 (.bool true) hR rfl (by kernel_rfl) rfl (by kernel_rfl) (fun w _ => by kernel_rfl) (⟨(BoxAt.ext hX26 bO20_0).1, (BoxAt.ext hX39 bO33_0).1, (BoxAt.ext hX52 bO46_0).1⟩) ?_
      refine wd_end hL hR hK (by kernel_rfl) ?_
      refine qw_then ?_
      refine cw_clean [1, 2, 9, 11, 12, 13, 17, 19, 20, 24] (ws' := [(1, .pointer (some ⟨O1, 0, none⟩)), (2, .pointer (some ⟨O7, 0, none⟩)), (9, .pointer (some ⟨O66, 0, none⟩)), (11, .pointer (some ⟨O88, 0, none⟩)), (12, .int .i64 2), (13, .bool true), (17, .bool false), (19, .int .i64 ((Swath.suns Swath.o0 Swath.s0 2).1 : Int)), (20, .int .i64 ((Swath.suns Swath.o0 Swath.s0 2).2 : Int)), (24, .bool true)]) (by kernel_rfl) (fun L => ?_)
      refine cw_seq ?_
      have hX276 : Ext w274 w274 := Ext.refl _
      refine cw_join (fun ws' Y => ∃ O279 : Nat, ∃ B283 : Nat, ∃ O290 : Nat, ∃ B294 : Nat, ws' = [(1, .pointer (some ⟨O1, 0, none⟩)), (2, .pointer (some ⟨O7, 0, none⟩)), (11, .pointer (some ⟨O88, 0, none⟩)), (12, .int .i64 2), (13, .bool true), (17, .bool false), (19, .int .i64 ((Swath.suns Swath.o0 Swath.s0 2).1 : Int)), (20, .int .i64 ((Swath.suns Swath.o0 Swath.s0 2).2 : Int)), (24, .bool true), (25, .bool true)] ∧ Ext w Y ∧ Ext X11 Y ∧ Ext X24 Y ∧ Ext X37 Y ∧ Ext X50 Y ∧ Ext X70 Y ∧ Ext Y136 Y ∧ Ext Y211 Y ∧ Ext w223 Y ∧ Ext X232 Y ∧ Ext w274 Y ∧ BoxAt Y O279 0 (.int .i64 2) ∧ BoxAt Y O279 1 (.int .i64 3) ∧ RowsAt Y B283 (Swath.stripL 12 [2, 3]) ∧ BoxAt Y O290 0 (.int .i64 1) ∧ BoxAt Y O290 1 (.int .i64 2) ∧ BoxAt Y O290 2 (.int .i64 3) ∧ BoxAt Y O290 3 (.int .i64 4) ∧ RowsAt Y B294 (Swath.stripL 12 [1, 2, 3, 4]) ∧ w274.heap.size ≤ Y.heap.size ∧ w274.heap.size ≤ O279 ∧ w274.heap.size ≤ B283 ∧ w274.heap.size ≤ O290 ∧ w274.heap.size ≤ B294 ∧ Hid (O279 ≠ B283) ∧ Hid (O279 ≠ O290) ∧ Hid (O279 ≠ B294) ∧ Hid (B283 ≠ O290) ∧ Hid (B283 ≠ B294) ∧ Hid (O290 ≠ B294)) (fun hJ => ?_) ?_
      ·
        refine cw_draw [(some 131, [9], []), (some 132, [], []), (some 133, [132], [1]), (some 134, [], []), (some 135, [134], [3, 2]), (some 136, [133, 135], [2, 4]), (some 137, [131, 136], [0, 5, 4]), (some 25, [137], [6, 6, 0, 1, 2, 3, 4, 5, 6])] (fun w' => w'.cell? ⟨O66, 0, none⟩ = some (.slice (some ⟨B53, 0, none⟩) 24 k55) ∧ w'.cell? ⟨O66, 1, none⟩ = some (.slice (some ⟨g54, 0, none⟩) 24 k56)) (by kernel_rfl) (by kernel_rfl) (by kernel_rfl) (by kernel_rfl) ((calm_then calm_body)) (⟨(BoxAt.ext hX72 bO66_0).1, (BoxAt.ext hX72 bO66_1).1⟩) (fun ops Q X277 hb hL hR hK => ?_)
        replace hE := hE.trans hb; replace hX13 := hX13.trans hb; replace hX26 := hX26.trans hb; replace hX39 := hX39.trans hb; replace hX52 := hX52.trans hb; replace hX72 := hX72.trans hb; replace hX147 := hX147.trans hb; replace hX222 := hX222.trans hb; replace hX225 := hX225.trans hb; replace hX234 := hX234.trans hb; replace hX276 := hX276.trans hb; have hs278 := hb.size; clear hb
        refine wd_take 0 (.agg #[.slice (some ⟨B53, 0, none⟩) 24 k55, .slice (some ⟨g54, 0, none⟩) 24 k56]) hR rfl (by kernel_rfl) rfl (by kernel_rfl) (fun w hS => ex_load rfl (by kernel_rfl) (ld44 (hS.1) (hS.2))) (⟨(BoxAt.ext hX72 bO66_0).1, (BoxAt.ext hX72 bO66_1).1⟩) ?_
        refine wd_two 1 3 hR rfl rfl (by kernel_rfl) (by kernel_rfl) (by kernel_rfl) (by kernel_rfl) ?_ ?_
        ·
          refine sn_newS (us := #[.int .i64 2, .int .i64 3]) (t := 3) (k := 2) (c := 2) (by kernel_rfl) ?_
          intro O279 X280 hO hOs hb hbx
          have hzO279 := hO; have hyO279 := hOs; clear hO hOs
          have bO279_0 : BoxAt X280 O279 0 (.int .i64 2) := hbx 0 _ rfl
          have bO279_1 : BoxAt X280 O279 1 (.int .i64 3) := hbx 1 _ rfl
          clear hbx; replace hE := hE.trans hb; replace hX13 := hX13.trans hb; replace hX26 := hX26.trans hb; replace hX39 := hX39.trans hb; replace hX52 := hX52.trans hb; replace hX72 := hX72.trans hb; replace hX147 := hX147.trans hb; replace hX222 := hX222.trans hb; replace hX225 := hX225.trans hb; replace hX234 := hX234.trans hb; replace hX276 := hX276.trans hb; have hs281 := hb.size; clear hb; have lt282 := bO279_0.lt
          refine ⟨⟨(BoxAt.ext hX72 bO66_0).1, (BoxAt.ext hX72 bO66_1).1⟩, ?_⟩
          refine wd_two 2 3 hR rfl rfl (by kernel_rfl) (by kernel_rfl) (by kernel_rfl) (by kernel_rfl) ?_ ?_
          ·
            have hI286 : IntsAt X280 (some ⟨O279, 0, none⟩) ((([2, 3] : List Nat)).map fun y => ((y : Nat) : Int)) := (.inr ⟨O279, 0, rfl, fun i hi => by
              match i, hi with
              | 0, _ => exact bO279_0.1
              | 1, _ => exact bO279_1.1
              | _ + 2, hi => exact absurd hi (by simp)⟩)
            refine sn_call (f := 37) (args := #[.int .i64 12, .slice (some ⟨O279, 0, none⟩) 2 2]) (by kernel_rfl) ((strip_c (x := 12) (ys := [2, 3]) _ (by decide) hI286 rfl (by decide) (by decide) (Ext.refl _)).mono ?_)
            rintro e w287 ⟨B283, rfl, hn284, hr285, hb⟩
            replace hE := hE.trans hb; replace hX13 := hX13.trans hb; replace hX26 := hX26.trans hb; replace hX39 := hX39.trans hb; replace hX52 := hX52.trans hb; replace hX72 := hX72.trans hb; replace hX147 := hX147.trans hb; replace hX222 := hX222.trans hb; replace hX225 := hX225.trans hb; replace hX234 := hX234.trans hb; replace hX276 := hX276.trans hb; replace bO279_0 := BoxAt.ext hb bO279_0; replace bO279_1 := BoxAt.ext hb bO279_1; have hs288 := hb.size; clear hb; have lt289 := hr285.lt
            refine ⟨_, rfl, ⟨(BoxAt.ext hX72 bO66_0).1, (BoxAt.ext hX72 bO66_1).1⟩, ?_⟩
            refine wd_step 3 hR rfl (by kernel_rfl) (by kernel_rfl) (by kernel_rfl) (sn_newS (us := #[.int .i64 1, .int .i64 2, .int .i64 3, .int .i64 4]) (t := 3) (k := 4) (c := 4) (by kernel_rfl) ?_)
            intro O290 X291 hO hOs hb hbx
            have hzO290 := hO; have hyO290 := hOs; clear hO hOs
            have bO290_0 : BoxAt X291 O290 0 (.int .i64 1) := hbx 0 _ rfl
            have bO290_1 : BoxAt X291 O290 1 (.int .i64 2) := hbx 1 _ rfl
            have bO290_2 : BoxAt X291 O290 2 (.int .i64 3) := hbx 2 _ rfl
            have bO290_3 : BoxAt X291 O290 3 (.int .i64 4) := hbx 3 _ rfl
            clear hbx; replace hE := hE.trans hb; replace hX13 := hX13.trans hb; replace hX26 := hX26.trans hb; replace hX39 := hX39.trans hb; replace hX52 := hX52.trans hb; replace hX72 := hX72.trans hb; replace hX147 := hX147.trans hb; replace hX222 := hX222.trans hb; replace hX225 := hX225.trans hb; replace hX234 := hX234.trans hb; replace hX276 := hX276.trans hb; replace bO279_0 := BoxAt.ext hb bO279_0; replace bO279_1 := BoxAt.ext hb bO279_1; replace hr285 := hr285.ext hb; have hs292 := hb.size; clear hb; have lt293 := bO290_0.lt
            refine ⟨⟨(BoxAt.ext hX72 bO66_0).1, (BoxAt.ext hX72 bO66_1).1⟩, ?_⟩
            have hI297 : IntsAt X291 (some ⟨O290, 0, none⟩) ((([1, 2, 3, 4] : List Nat)).map fun y => ((y : Nat) : Int)) := (.inr ⟨O290, 0, rfl, fun i hi => by
              match i, hi with
              | 0, _ => exact bO290_0.1
              | 1, _ => exact bO290_1.1
              | 2, _ => exact bO290_2.1
              | 3, _ => exact bO290_3.1
              | _ + 4, hi => exact absurd hi (by simp)⟩)
            refine wd_step 4 hR rfl (by kernel_rfl) (by kernel_rfl) (by kernel_rfl) (sn_call (f := 37) (args := #[.int .i64 12, .slice (some ⟨O290, 0, none⟩) 4 4]) (by kernel_rfl) ((strip_c (x := 12) (ys := [1, 2, 3, 4]) _ (by decide) hI297 rfl (by decide) (by decide) (Ext.refl _)).mono ?_))
            rintro e w298 ⟨B294, rfl, hn295, hr296, hb⟩
            replace hE := hE.trans hb; replace hX13 := hX13.trans hb; replace hX26 := hX26.trans hb; replace hX39 := hX39.trans hb; replace hX52 := hX52.trans hb; replace hX72 := hX72.trans hb; replace hX147 := hX147.trans hb; replace hX222 := hX222.trans hb; replace hX225 := hX225.trans hb; replace hX234 := hX234.trans hb; replace hX276 := hX276.trans hb; replace bO279_0 := BoxAt.ext hb bO279_0; replace bO279_1 := BoxAt.ext hb bO279_1; replace hr285 := hr285.ext hb; replace bO290_0 := BoxAt.ext hb bO290_0; replace bO290_1 := BoxAt.ext hb bO290_1; replace bO290_2 := BoxAt.ext hb bO290_2; replace bO290_3 := BoxAt.ext hb bO290_3; have hs299 := hb.size; clear hb; have lt300 := hr296.lt
            refine ⟨_, rfl, ⟨(BoxAt.ext hX72 bO66_0).1, (BoxAt.ext hX72 bO66_1).1⟩, ?_⟩
            refine wd_take 5 (.agg #[.slice (some ⟨B283, 0, none⟩) 24 24, .slice (some ⟨B294, 0, none⟩) 24 24]) hR rfl (by kernel_rfl) rfl (by kernel_rfl) (fun w _ => by kernel_rfl) (⟨(BoxAt.ext hX72 bO66_0).1, (BoxAt.ext hX72 bO66_1).1⟩) ?_
            refine wd_step 6 hR rfl (by kernel_rfl) (by kernel_rfl) (by kernel_rfl) (sn_call (f := 21) (args := #[.agg #[.slice (some ⟨B53, 0, none⟩) 24 k55, .slice (some ⟨g54, 0, none⟩) 24 k56], .agg #[.slice (some ⟨B283, 0, none⟩) 24 24, .slice (some ⟨B294, 0, none⟩) 24 24]]) (by kernel_rfl) ((SameStrip_t _ (RowsAt.va (hr60.ext hX72) (by kernel_rfl)) (RowsAt.va (hr61.ext hX72) (by kernel_rfl)) (RowsAt.va hr285 (by kernel_rfl)) (RowsAt.va hr296 (by kernel_rfl)) (by kernel_rfl) (by kernel_rfl)).mono ?_))
            rintro e w301 ⟨rfl, hb⟩
            replace hE := hE.trans hb; replace hX13 := hX13.trans hb; replace hX26 := hX26.trans hb; replace hX39 := hX39.trans hb; replace hX52 := hX52.trans hb; replace hX72 := hX72.trans hb; replace hX147 := hX147.trans hb; replace hX222 := hX222.trans hb; replace hX225 := hX225.trans hb; replace hX234 := hX234.trans hb; replace hX276 := hX276.trans hb; replace bO279_0 := BoxAt.ext hb bO279_0; replace bO279_1 := BoxAt.ext hb bO279_1; replace hr285 := hr285.ext hb; replace bO290_0 := BoxAt.ext hb bO290_0; replace bO290_1 := BoxAt.ext hb bO290_1; replace bO290_2 := BoxAt.ext hb bO290_2; replace bO290_3 := BoxAt.ext hb bO290_3; replace hr296 := hr296.ext hb; have hs302 := hb.size; clear hb
            refine ⟨_, rfl, ⟨(BoxAt.ext hX72 bO66_0).1, (BoxAt.ext hX72 bO66_1).1⟩, ?_⟩
            refine wd_take 7 (.bool true) hR rfl (by kernel_rfl) rfl (by kernel_rfl) (fun w _ => by kernel_rfl) (⟨(BoxAt.ext hX72 bO66_0).1, (BoxAt.ext hX72 bO66_1).1⟩) ?_
            refine wd_end hL hR hK (by kernel_rfl) ?_
            exact qw_leaf hJ [1, 2, 11, 12, 13, 17, 19, 20, 24, 25] (ws' := [(1, .pointer (some ⟨O1, 0, none⟩)), (2, .pointer (some ⟨O7, 0, none⟩)), (11, .pointer (some ⟨O88, 0, none⟩)), (12, .int .i64 2), (13, .bool true), (17, .bool false), (19, .int .i64 ((Swath.suns Swath.o0 Swath.s0 2).1 : Int)), (20, .int .i64 ((Swath.suns Swath.o0 Swath.s0 2).2 : Int)), (24, .bool true), (25, .bool true)]) (by kernel_rfl) ⟨O279, B283, O290, B294, rfl, hE, hX13, hX26, hX39, hX52, hX72, hX147, hX222, hX225, hX234, hX276, bO279_0, bO279_1, hr285, bO290_0, bO290_1, bO290_2, bO290_3, hr296, (T hs278 (T hs281 (T hs288 (T hs292 (T hs299 hs302))))), (T hs278 (Nat.le_of_eq hzO279)), (T (T hs278 hs281) hn284), (T (T hs278 (T hs281 hs288)) (Nat.le_of_eq hzO290)), (T (T hs278 (T hs281 (T hs288 hs292))) hn295), Lib.hid (Nat.ne_of_lt (Nat.lt_of_lt_of_le lt282 hn284)), Lib.hid (Nat.ne_of_lt (Nat.lt_of_lt_of_le lt282 (T hs288 (Nat.le_of_eq hzO290)))), Lib.hid (Nat.ne_of_lt (Nat.lt_of_lt_of_le lt282 (T (T hs288 hs292) hn295))), Lib.hid (Nat.ne_of_lt (Nat.lt_of_lt_of_le lt289 (Nat.le_of_eq hzO290))), Lib.hid (Nat.ne_of_lt (Nat.lt_of_lt_of_le lt289 (T hs292 hn295))), Lib.hid (Nat.ne_of_lt (Nat.lt_of_lt_of_le lt293 hn295))⟩
          ·
            refine sn_newS (us := #[.int .i64 1, .int .i64 2, .int .i64 3, .int .i64 4]) (t := 3) (k := 4) (c := 4) (by kernel_rfl) ?_
            intro O303 X304 hO hOs hb hbx
            have hzO303 := hO; have hyO303 := hOs; clear hO hOs
            have bO303_0 : BoxAt X304 O303 0 (.int .i64 1) := hbx 0 _ rfl
            have bO303_1 : BoxAt X304 O303 1 (.int .i64 2) := hbx 1 _ rfl
            have bO303_2 : BoxAt X304 O303 2 (.int .i64 3) := hbx 2 _ rfl
            have bO303_3 : BoxAt X304 O303 3 (.int .i64 4) := hbx 3 _ rfl
            clear hbx; replace hE := hE.trans hb; replace hX13 := hX13.trans hb; replace hX26 := hX26.trans hb; replace hX39 := hX39.trans hb; replace hX52 := hX52.trans hb; replace hX72 := hX72.trans hb; replace hX147 := hX147.trans hb; replace hX222 := hX222.trans hb; replace hX225 := hX225.trans hb; replace hX234 := hX234.trans hb; replace hX276 := hX276.trans hb; replace bO279_0 := BoxAt.ext hb bO279_0; replace bO279_1 := BoxAt.ext hb bO279_1; have hs305 := hb.size; clear hb; have lt306 := bO303_0.lt
            refine ⟨⟨(BoxAt.ext hX72 bO66_0).1, (BoxAt.ext hX72 bO66_1).1⟩, ?_⟩
            have hI310 : IntsAt X304 (some ⟨O279, 0, none⟩) ((([2, 3] : List Nat)).map fun y => ((y : Nat) : Int)) := (.inr ⟨O279, 0, rfl, fun i hi => by
              match i, hi with
              | 0, _ => exact bO279_0.1
              | 1, _ => exact bO279_1.1
              | _ + 2, hi => exact absurd hi (by simp)⟩)
            refine wd_step 2 hR rfl (by kernel_rfl) (by kernel_rfl) (by kernel_rfl) (sn_call (f := 37) (args := #[.int .i64 12, .slice (some ⟨O279, 0, none⟩) 2 2]) (by kernel_rfl) ((strip_c (x := 12) (ys := [2, 3]) _ (by decide) hI310 rfl (by decide) (by decide) (Ext.refl _)).mono ?_))
            rintro e w311 ⟨B307, rfl, hn308, hr309, hb⟩
            replace hE := hE.trans hb; replace hX13 := hX13.trans hb; replace hX26 := hX26.trans hb; replace hX39 := hX39.trans hb; replace hX52 := hX52.trans hb; replace hX72 := hX72.trans hb; replace hX147 := hX147.trans hb; replace hX222 := hX222.trans hb; replace hX225 := hX225.trans hb; replace hX234 := hX234.trans hb; replace hX276 := hX276.trans hb; replace bO279_0 := BoxAt.ext hb bO279_0; replace bO279_1 := BoxAt.ext hb bO279_1; replace bO303_0 := BoxAt.ext hb bO303_0; replace bO303_1 := BoxAt.ext hb bO303_1; replace bO303_2 := BoxAt.ext hb bO303_2; replace bO303_3 := BoxAt.ext hb bO303_3; have hs312 := hb.size; clear hb; have lt313 := hr309.lt
            refine ⟨_, rfl, ⟨(BoxAt.ext hX72 bO66_0).1, (BoxAt.ext hX72 bO66_1).1⟩, ?_⟩
            have hI317 : IntsAt w311 (some ⟨O303, 0, none⟩) ((([1, 2, 3, 4] : List Nat)).map fun y => ((y : Nat) : Int)) := (.inr ⟨O303, 0, rfl, fun i hi => by
              match i, hi with
              | 0, _ => exact bO303_0.1
              | 1, _ => exact bO303_1.1
              | 2, _ => exact bO303_2.1
              | 3, _ => exact bO303_3.1
              | _ + 4, hi => exact absurd hi (by simp)⟩)
            refine wd_step 4 hR rfl (by kernel_rfl) (by kernel_rfl) (by kernel_rfl) (sn_call (f := 37) (args := #[.int .i64 12, .slice (some ⟨O303, 0, none⟩) 4 4]) (by kernel_rfl) ((strip_c (x := 12) (ys := [1, 2, 3, 4]) _ (by decide) hI317 rfl (by decide) (by decide) (Ext.refl _)).mono ?_))
            rintro e w318 ⟨B314, rfl, hn315, hr316, hb⟩
            replace hE := hE.trans hb; replace hX13 := hX13.trans hb; replace hX26 := hX26.trans hb; replace hX39 := hX39.trans hb; replace hX52 := hX52.trans hb; replace hX72 := hX72.trans hb; replace hX147 := hX147.trans hb; replace hX222 := hX222.trans hb; replace hX225 := hX225.trans hb; replace hX234 := hX234.trans hb; replace hX276 := hX276.trans hb; replace bO279_0 := BoxAt.ext hb bO279_0; replace bO279_1 := BoxAt.ext hb bO279_1; replace bO303_0 := BoxAt.ext hb bO303_0; replace bO303_1 := BoxAt.ext hb bO303_1; replace bO303_2 := BoxAt.ext hb bO303_2; replace bO303_3 := BoxAt.ext hb bO303_3; replace hr309 := hr309.ext hb; have hs319 := hb.size; clear hb; have lt320 := hr316.lt
            refine ⟨_, rfl, ⟨(BoxAt.ext hX72 bO66_0).1, (BoxAt.ext hX72 bO66_1).1⟩, ?_⟩
            refine wd_take 5 (.agg #[.slice (some ⟨B307, 0, none⟩) 24 24, .slice (some ⟨B314, 0, none⟩) 24 24]) hR rfl (by kernel_rfl) rfl (by kernel_rfl) (fun w _ => by kernel_rfl) (⟨(BoxAt.ext hX72 bO66_0).1, (BoxAt.ext hX72 bO66_1).1⟩) ?_
            refine wd_step 6 hR rfl (by kernel_rfl) (by kernel_rfl) (by kernel_rfl) (sn_call (f := 21) (args := #[.agg #[.slice (some ⟨B53, 0, none⟩) 24 k55, .slice (some ⟨g54, 0, none⟩) 24 k56], .agg #[.slice (some ⟨B307, 0, none⟩) 24 24, .slice (some ⟨B314, 0, none⟩) 24 24]]) (by kernel_rfl) ((SameStrip_t _ (RowsAt.va (hr60.ext hX72) (by kernel_rfl)) (RowsAt.va (hr61.ext hX72) (by kernel_rfl)) (RowsAt.va hr309 (by kernel_rfl)) (RowsAt.va hr316 (by kernel_rfl)) (by kernel_rfl) (by kernel_rfl)).mono ?_))
            rintro e w321 ⟨rfl, hb⟩
            replace hE := hE.trans hb; replace hX13 := hX13.trans hb; replace hX26 := hX26.trans hb; replace hX39 := hX39.trans hb; replace hX52 := hX52.trans hb; replace hX72 := hX72.trans hb; replace hX147 := hX147.trans hb; replace hX222 := hX222.trans hb; replace hX225 := hX225.trans hb; replace hX234 := hX234.trans hb; replace hX276 := hX276.trans hb; replace bO279_0 := BoxAt.ext hb bO279_0; replace bO279_1 := BoxAt.ext hb bO279_1; replace bO303_0 := BoxAt.ext hb bO303_0; replace bO303_1 := BoxAt.ext hb bO303_1; replace bO303_2 := BoxAt.ext hb bO303_2; replace bO303_3 := BoxAt.ext hb bO303_3; replace hr309 := hr309.ext hb; replace hr316 := hr316.ext hb; have hs322 := hb.size; clear hb
            refine ⟨_, rfl, ⟨(BoxAt.ext hX72 bO66_0).1, (BoxAt.ext hX72 bO66_1).1⟩, ?_⟩
            refine wd_take 7 (.bool true) hR rfl (by kernel_rfl) rfl (by kernel_rfl) (fun w _ => by kernel_rfl) (⟨(BoxAt.ext hX72 bO66_0).1, (BoxAt.ext hX72 bO66_1).1⟩) ?_
            refine wd_end hL hR hK (by kernel_rfl) ?_
            exact qw_leaf hJ [1, 2, 11, 12, 13, 17, 19, 20, 24, 25] (ws' := [(1, .pointer (some ⟨O1, 0, none⟩)), (2, .pointer (some ⟨O7, 0, none⟩)), (11, .pointer (some ⟨O88, 0, none⟩)), (12, .int .i64 2), (13, .bool true), (17, .bool false), (19, .int .i64 ((Swath.suns Swath.o0 Swath.s0 2).1 : Int)), (20, .int .i64 ((Swath.suns Swath.o0 Swath.s0 2).2 : Int)), (24, .bool true), (25, .bool true)]) (by kernel_rfl) ⟨O279, B307, O303, B314, rfl, hE, hX13, hX26, hX39, hX52, hX72, hX147, hX222, hX225, hX234, hX276, bO279_0, bO279_1, hr309, bO303_0, bO303_1, bO303_2, bO303_3, hr316, (T hs278 (T hs281 (T hs305 (T hs312 (T hs319 hs322))))), (T hs278 (Nat.le_of_eq hzO279)), (T (T hs278 (T hs281 hs305)) hn308), (T (T hs278 hs281) (Nat.le_of_eq hzO303)), (T (T hs278 (T hs281 (T hs305 hs312))) hn315), Lib.hid (Nat.ne_of_lt (Nat.lt_of_lt_of_le lt282 (T hs305 hn308))), Lib.hid (Nat.ne_of_lt (Nat.lt_of_lt_of_le lt282 (Nat.le_of_eq hzO303))), Lib.hid (Nat.ne_of_lt (Nat.lt_of_lt_of_le lt282 (T (T hs305 hs312) hn315))), Lib.hid (Nat.ne_of_gt (Nat.lt_of_lt_of_le lt306 hn308)), Lib.hid (Nat.ne_of_lt (Nat.lt_of_lt_of_le lt313 hn315)), Lib.hid (Nat.ne_of_lt (Nat.lt_of_lt_of_le lt306 (T hs312 hn315)))⟩
        ·
          refine sn_newS (us := #[.int .i64 1, .int .i64 2, .int .i64 3, .int .i64 4]) (t := 3) (k := 4) (c := 4) (by kernel_rfl) ?_
          intro O323 X324 hO hOs hb hbx
          have hzO323 := hO; have hyO323 := hOs; clear hO hOs
          have bO323_0 : BoxAt X324 O323 0 (.int .i64 1) := hbx 0 _ rfl
          have bO323_1 : BoxAt X324 O323 1 (.int .i64 2) := hbx 1 _ rfl
          have bO323_2 : BoxAt X324 O323 2 (.int .i64 3) := hbx 2 _ rfl
          have bO323_3 : BoxAt X324 O323 3 (.int .i64 4) := hbx 3 _ rfl
          clear hbx; replace hE := hE.trans hb; replace hX13 := hX13.trans hb; replace hX26 := hX26.trans hb; replace hX39 := hX39.trans hb; replace hX52 := hX52.trans hb; replace hX72 := hX72.trans hb; replace hX147 := hX147.trans hb; replace hX222 := hX222.trans hb; replace hX225 := hX225.trans hb; replace hX234 := hX234.trans hb; replace hX276 := hX276.trans hb; have hs325 := hb.size; clear hb; have lt326 := bO323_0.lt
          refine ⟨⟨(BoxAt.ext hX72 bO66_0).1, (BoxAt.ext hX72 bO66_1).1⟩, ?_⟩
          refine wd_step 1 hR rfl (by kernel_rfl) (by kernel_rfl) (by kernel_rfl) (sn_newS (us := #[.int .i64 2, .int .i64 3]) (t := 3) (k := 2) (c := 2) (by kernel_rfl) ?_)
          intro O327 X328 hO hOs hb hbx
          have hzO327 := hO; have hyO327 := hOs; clear hO hOs
          have bO327_0 : BoxAt X328 O327 0 (.int .i64 2) := hbx 0 _ rfl
          have bO327_1 : BoxAt X328 O327 1 (.int .i64 3) := hbx 1 _ rfl
          clear hbx; replace hE := hE.trans hb; replace hX13 := hX13.trans hb; replace hX26 := hX26.trans hb; replace hX39 := hX39.trans hb; replace hX52 := hX52.trans hb; replace hX72 := hX72.trans hb; replace hX147 := hX147.trans hb; replace hX222 := hX222.trans hb; replace hX225 := hX225.trans hb; replace hX234 := hX234.trans hb; replace hX276 := hX276.trans hb; replace bO323_0 := BoxAt.ext hb bO323_0; replace bO323_1 := BoxAt.ext hb bO323_1; replace bO323_2 := BoxAt.ext hb bO323_2; replace bO323_3 := BoxAt.ext hb bO323_3; have hs329 := hb.size; clear hb; have lt330 := bO327_0.lt
          refine ⟨⟨(BoxAt.ext hX72 bO66_0).1, (BoxAt.ext hX72 bO66_1).1⟩, ?_⟩
          have hI334 : IntsAt X328 (some ⟨O327, 0, none⟩) ((([2, 3] : List Nat)).map fun y => ((y : Nat) : Int)) := (.inr ⟨O327, 0, rfl, fun i hi => by
            match i, hi with
            | 0, _ => exact bO327_0.1
            | 1, _ => exact bO327_1.1
            | _ + 2, hi => exact absurd hi (by simp)⟩)
          refine wd_step 2 hR rfl (by kernel_rfl) (by kernel_rfl) (by kernel_rfl) (sn_call (f := 37) (args := #[.int .i64 12, .slice (some ⟨O327, 0, none⟩) 2 2]) (by kernel_rfl) ((strip_c (x := 12) (ys := [2, 3]) _ (by decide) hI334 rfl (by decide) (by decide) (Ext.refl _)).mono ?_))
          rintro e w335 ⟨B331, rfl, hn332, hr333, hb⟩
          replace hE := hE.trans hb; replace hX13 := hX13.trans hb; replace hX26 := hX26.trans hb; replace hX39 := hX39.trans hb; replace hX52 := hX52.trans hb; replace hX72 := hX72.trans hb; replace hX147 := hX147.trans hb; replace hX222 := hX222.trans hb; replace hX225 := hX225.trans hb; replace hX234 := hX234.trans hb; replace hX276 := hX276.trans hb; replace bO323_0 := BoxAt.ext hb bO323_0; replace bO323_1 := BoxAt.ext hb bO323_1; replace bO323_2 := BoxAt.ext hb bO323_2; replace bO323_3 := BoxAt.ext hb bO323_3; replace bO327_0 := BoxAt.ext hb bO327_0; replace bO327_1 := BoxAt.ext hb bO327_1; have hs336 := hb.size; clear hb; have lt337 := hr333.lt
          refine ⟨_, rfl, ⟨(BoxAt.ext hX72 bO66_0).1, (BoxAt.ext hX72 bO66_1).1⟩, ?_⟩
          have hI341 : IntsAt w335 (some ⟨O323, 0, none⟩) ((([1, 2, 3, 4] : List Nat)).map fun y => ((y : Nat) : Int)) := (.inr ⟨O323, 0, rfl, fun i hi => by
            match i, hi with
            | 0, _ => exact bO323_0.1
            | 1, _ => exact bO323_1.1
            | 2, _ => exact bO323_2.1
            | 3, _ => exact bO323_3.1
            | _ + 4, hi => exact absurd hi (by simp)⟩)
          refine wd_step 4 hR rfl (by kernel_rfl) (by kernel_rfl) (by kernel_rfl) (sn_call (f := 37) (args := #[.int .i64 12, .slice (some ⟨O323, 0, none⟩) 4 4]) (by kernel_rfl) ((strip_c (x := 12) (ys := [1, 2, 3, 4]) _ (by decide) hI341 rfl (by decide) (by decide) (Ext.refl _)).mono ?_))
          rintro e w342 ⟨B338, rfl, hn339, hr340, hb⟩
          replace hE := hE.trans hb; replace hX13 := hX13.trans hb; replace hX26 := hX26.trans hb; replace hX39 := hX39.trans hb; replace hX52 := hX52.trans hb; replace hX72 := hX72.trans hb; replace hX147 := hX147.trans hb; replace hX222 := hX222.trans hb; replace hX225 := hX225.trans hb; replace hX234 := hX234.trans hb; replace hX276 := hX276.trans hb; replace bO323_0 := BoxAt.ext hb bO323_0; replace bO323_1 := BoxAt.ext hb bO323_1; replace bO323_2 := BoxAt.ext hb bO323_2; replace bO323_3 := BoxAt.ext hb bO323_3; replace bO327_0 := BoxAt.ext hb bO327_0; replace bO327_1 := BoxAt.ext hb bO327_1; replace hr333 := hr333.ext hb; have hs343 := hb.size; clear hb; have lt344 := hr340.lt
          refine ⟨_, rfl, ⟨(BoxAt.ext hX72 bO66_0).1, (BoxAt.ext hX72 bO66_1).1⟩, ?_⟩
          refine wd_take 5 (.agg #[.slice (some ⟨B331, 0, none⟩) 24 24, .slice (some ⟨B338, 0, none⟩) 24 24]) hR rfl (by kernel_rfl) rfl (by kernel_rfl) (fun w _ => by kernel_rfl) (⟨(BoxAt.ext hX72 bO66_0).1, (BoxAt.ext hX72 bO66_1).1⟩) ?_
          refine wd_step 6 hR rfl (by kernel_rfl) (by kernel_rfl) (by kernel_rfl) (sn_call (f := 21) (args := #[.agg #[.slice (some ⟨B53, 0, none⟩) 24 k55, .slice (some ⟨g54, 0, none⟩) 24 k56], .agg #[.slice (some ⟨B331, 0, none⟩) 24 24, .slice (some ⟨B338, 0, none⟩) 24 24]]) (by kernel_rfl) ((SameStrip_t _ (RowsAt.va (hr60.ext hX72) (by kernel_rfl)) (RowsAt.va (hr61.ext hX72) (by kernel_rfl)) (RowsAt.va hr333 (by kernel_rfl)) (RowsAt.va hr340 (by kernel_rfl)) (by kernel_rfl) (by kernel_rfl)).mono ?_))
          rintro e w345 ⟨rfl, hb⟩
          replace hE := hE.trans hb; replace hX13 := hX13.trans hb; replace hX26 := hX26.trans hb; replace hX39 := hX39.trans hb; replace hX52 := hX52.trans hb; replace hX72 := hX72.trans hb; replace hX147 := hX147.trans hb; replace hX222 := hX222.trans hb; replace hX225 := hX225.trans hb; replace hX234 := hX234.trans hb; replace hX276 := hX276.trans hb; replace bO323_0 := BoxAt.ext hb bO323_0; replace bO323_1 := BoxAt.ext hb bO323_1; replace bO323_2 := BoxAt.ext hb bO323_2; replace bO323_3 := BoxAt.ext hb bO323_3; replace bO327_0 := BoxAt.ext hb bO327_0; replace bO327_1 := BoxAt.ext hb bO327_1; replace hr333 := hr333.ext hb; replace hr340 := hr340.ext hb; have hs346 := hb.size; clear hb
          refine ⟨_, rfl, ⟨(BoxAt.ext hX72 bO66_0).1, (BoxAt.ext hX72 bO66_1).1⟩, ?_⟩
          refine wd_take 7 (.bool true) hR rfl (by kernel_rfl) rfl (by kernel_rfl) (fun w _ => by kernel_rfl) (⟨(BoxAt.ext hX72 bO66_0).1, (BoxAt.ext hX72 bO66_1).1⟩) ?_
          refine wd_end hL hR hK (by kernel_rfl) ?_
          exact qw_leaf hJ [1, 2, 11, 12, 13, 17, 19, 20, 24, 25] (ws' := [(1, .pointer (some ⟨O1, 0, none⟩)), (2, .pointer (some ⟨O7, 0, none⟩)), (11, .pointer (some ⟨O88, 0, none⟩)), (12, .int .i64 2), (13, .bool true), (17, .bool false), (19, .int .i64 ((Swath.suns Swath.o0 Swath.s0 2).1 : Int)), (20, .int .i64 ((Swath.suns Swath.o0 Swath.s0 2).2 : Int)), (24, .bool true), (25, .bool true)]) (by kernel_rfl) ⟨O327, B331, O323, B338, rfl, hE, hX13, hX26, hX39, hX52, hX72, hX147, hX222, hX225, hX234, hX276, bO327_0, bO327_1, hr333, bO323_0, bO323_1, bO323_2, bO323_3, hr340, (T hs278 (T hs325 (T hs329 (T hs336 (T hs343 hs346))))), (T (T hs278 hs325) (Nat.le_of_eq hzO327)), (T (T hs278 (T hs325 hs329)) hn332), (T hs278 (Nat.le_of_eq hzO323)), (T (T hs278 (T hs325 (T hs329 hs336))) hn339), Lib.hid (Nat.ne_of_lt (Nat.lt_of_lt_of_le lt330 hn332)), Lib.hid (Nat.ne_of_gt (Nat.lt_of_lt_of_le lt326 (Nat.le_of_eq hzO327))), Lib.hid (Nat.ne_of_lt (Nat.lt_of_lt_of_le lt330 (T hs336 hn339))), Lib.hid (Nat.ne_of_gt (Nat.lt_of_lt_of_le lt326 (T hs329 hn332))), Lib.hid (Nat.ne_of_lt (Nat.lt_of_lt_of_le lt337 hn339)), Lib.hid (Nat.ne_of_lt (Nat.lt_of_lt_of_le lt326 (T (T hs329 hs336) hn339)))⟩
      ·
        clear hE hX13 hX26 hX39 hX52 hX72 hX147 hX222 hX225 hX234 hX276
        rintro L ws Y347 ⟨O279, B283, O290, B294, rfl, hE, hX13, hX26, hX39, hX52, hX72, hX147, hX222, hX225, hX234, hX276, bO279_0, bO279_1, hr285, bO290_0, bO290_1, bO290_2, bO290_3, hr296, hn348, hn349, hn350, hn351, hn352, hn353, hn354, hn355, hn356, hn357, hn358⟩
        have lt359 := bO279_0.lt; have lt360 := hr285.lt; have lt361 := bO290_0.lt; have lt362 := hr296.lt; refine qw_then ?_; refine cw_seq ?_
        have hX363 : Ext Y347 Y347 := Ext.refl _
        refine cw_draw [(some 138, [24], []), (some 139, [138], [0]), (some 140, [25, 139], [1]), (some 141, [139, 140], [1, 2]), (some 142, [141], [3, 1]), (some 143, [13, 142], [4]), (some 144, [142, 143], [4, 5]), (some 145, [144], [6, 4]), (some 146, [17, 145], [7]), (some 147, [146, 145], [8, 7]), (some 148, [145, 147], [7, 9]), (some 149, [148], [10, 7]), (some 150, [11, 149], [11]), (some 151, [149], [11]), (some 152, [150, 151, 149], [12, 13, 11]), (some 153, [149, 152], [11, 14]), (some 154, [153], [15, 11]), (some 155, [12, 154], [16]), (some 156, [155, 154], [17, 16]), (some 157, [154, 156], [16, 18]), (some 158, [157], [19, 16]), (some 159, [19, 158], [20]), (some 160, [20, 158], [20]), (some 161, [159, 160, 158], [21, 22, 20]), (some 162, [158, 161], [20, 23]), (some 163, [162], [24, 20]), (some 164, [1, 163], [25]), (some 165, [2, 163], [25]), (some 166, [164, 165, 163], [26, 27, 25, 25]), (some 167, [163, 166], [25, 28]), (some 168, [167], [29, 28]), (some 169, [1, 168], [30]), (some 170, [2, 168], [30]), (some 171, [169, 170, 168], [31, 32, 30, 30]), (some 172, [171, 168], [33, 30]), (some 173, [168, 172], [30, 34]), (some 174, [173], [35, 33]), (some 175, [1, 174], [36]), (some 176, [2, 174], [36]), (some 177, [174], [36]), (some 178, [177, 174], [39, 36, 36]), (some 179, [175, 176, 178, 174], [37, 38, 40, 40, 36]), (some 180, [174, 179], [36, 41]), (some 181, [180], [42, 41]), (some 182, [1, 181], [43]), (some 183, [2, 181], [43]), (some 184, [181], [43]), (some 185, [184, 181], [46, 43, 43]), (some 186, [182, 183, 185, 181], [44, 45, 47, 47, 43]), (some 187, [186, 181], [48, 43]), (some 188, [181, 187], [43, 49]), (some 0, [188], [50, 48, 0, 1, 2, 3, 4, 5, 6, 7, 8, 9, 10, 11, 12, 13, 14, 15, 16, 17, 18, 19, 20, 21, 22, 23, 24, 25, 26, 27, 28, 29, 30, 31, 32, 33, 34, 35, 36, 37, 38, 39, 40, 41, 42, 43, 44, 45, 46, 47, 48, 49, 50])] (fun w' => w'.cell? ⟨O88, 0, none⟩ = some (.int .i64 17) ∧ w'.cell? ⟨O88, 1, none⟩ = some (.int .i64 27) ∧ w'.cell? ⟨O1, 0, none⟩ = some (.int .i64 200) ∧ w'.cell? ⟨O1, 1, none⟩ = some (.int .i64 0) ∧ w'.cell? ⟨O1, 2, none⟩ = some (.int .i64 0) ∧ w'.cell? ⟨O1, 3, none⟩ = some (.int .i64 20000) ∧ w'.cell? ⟨O1, 4, none⟩ = some (.int .i64 10000) ∧ w'.cell? ⟨O1, 5, none⟩ = some (.int .i64 0) ∧ w'.cell? ⟨O1, 6, none⟩ = some (.int .i64 1) ∧ w'.cell? ⟨O7, 0, none⟩ = some (.int .i64 10) ∧ w'.cell? ⟨O7, 1, none⟩ = some (.int .i64 20)) (by kernel_rfl) (by kernel_rfl) (by kernel_rfl) (by kernel_rfl) ((calm_then calm_body)) (⟨(BoxAt.ext hX147 bO88_0).1, (BoxAt.ext hX147 bO88_1).1, (BoxAt.ext hX13 bO1_0).1, (BoxAt.ext hX13 bO1_1).1, (BoxAt.ext hX13 bO1_2).1, (BoxAt.ext hX13 bO1_3).1, (BoxAt.ext hX13 bO1_4).1, (BoxAt.ext hX13 bO1_5).1, (BoxAt.ext hX13 bO1_6).1, (BoxAt.ext hX13 bO7_0).1, (BoxAt.ext hX13 bO7_1).1⟩) (fun ops Q X364 hb hL hR hK => ?_)
        replace hE := hE.trans hb; replace hX13 := hX13.trans hb; replace hX26 := hX26.trans hb; replace hX39 := hX39.trans hb; replace hX52 := hX52.trans hb; replace hX72 := hX72.trans hb; replace hX147 := hX147.trans hb; replace hX222 := hX222.trans hb; replace hX225 := hX225.trans hb; replace hX234 := hX234.trans hb; replace hX276 := hX276.trans hb; replace hX363 := hX363.trans hb; have hs365 := hb.size; clear hb
        refine wd_take 0 (.bool true) hR rfl (by kernel_rfl) rfl (by kernel_rfl) (fun w _ => by kernel_rfl) (⟨(BoxAt.ext hX147 bO88_0).1, (BoxAt.ext hX147 bO88_1).1, (BoxAt.ext hX13 bO1_0).1, (BoxAt.ext hX13 bO1_1).1, (BoxAt.ext hX13 bO1_2).1, (BoxAt.ext hX13 bO1_3).1, (BoxAt.ext hX13 bO1_4).1, (BoxAt.ext hX13 bO1_5).1, (BoxAt.ext hX13 bO1_6).1, (BoxAt.ext hX13 bO7_0).1, (BoxAt.ext hX13 bO7_1).1⟩) ?_
        refine wd_take 1 (.bool true) hR rfl (by kernel_rfl) rfl (by kernel_rfl) (fun w _ => by kernel_rfl) (⟨(BoxAt.ext hX147 bO88_0).1, (BoxAt.ext hX147 bO88_1).1, (BoxAt.ext hX13 bO1_0).1, (BoxAt.ext hX13 bO1_1).1, (BoxAt.ext hX13 bO1_2).1, (BoxAt.ext hX13 bO1_3).1, (BoxAt.ext hX13 bO1_4).1, (BoxAt.ext hX13 bO1_5).1, (BoxAt.ext hX13 bO1_6).1, (BoxAt.ext hX13 bO7_0).1, (BoxAt.ext hX13 bO7_1).1⟩) ?_
        refine wd_take 2 (.bool true) hR rfl (by kernel_rfl) rfl (by kernel_rfl) (fun w _ => by kernel_rfl) (⟨(BoxAt.ext hX147 bO88_0).1, (BoxAt.ext hX147 bO88_1).1, (BoxAt.ext hX13 bO1_0).1, (BoxAt.ext hX13 bO1_1).1, (BoxAt.ext hX13 bO1_2).1, (BoxAt.ext hX13 bO1_3).1, (BoxAt.ext hX13 bO1_4).1, (BoxAt.ext hX13 bO1_5).1, (BoxAt.ext hX13 bO1_6).1, (BoxAt.ext hX13 bO7_0).1, (BoxAt.ext hX13 bO7_1).1⟩) ?_
        refine wd_take 3 (.bool true) hR rfl (by kernel_rfl) rfl (by kernel_rfl) (fun w _ => by kernel_rfl) (⟨(BoxAt.ext hX147 bO88_0).1, (BoxAt.ext hX147 bO88_1).1, (BoxAt.ext hX13 bO1_0).1, (BoxAt.ext hX13 bO1_1).1, (BoxAt.ext hX13 bO1_2).1, (BoxAt.ext hX13 bO1_3).1, (BoxAt.ext hX13 bO1_4).1, (BoxAt.ext hX13 bO1_5).1, (BoxAt.ext hX13 bO1_6).1, (BoxAt.ext hX13 bO7_0).1, (BoxAt.ext hX13 bO7_1).1⟩) ?_
        refine wd_take 4 (.bool true) hR rfl (by kernel_rfl) rfl (by kernel_rfl) (fun w _ => by kernel_rfl) (⟨(BoxAt.ext hX147 bO88_0).1, (BoxAt.ext hX147 bO88_1).1, (BoxAt.ext hX13 bO1_0).1, (BoxAt.ext hX13 bO1_1).1, (BoxAt.ext hX13 bO1_2).1, (BoxAt.ext hX13 bO1_3).1, (BoxAt.ext hX13 bO1_4).1, (BoxAt.ext hX13 bO1_5).1, (BoxAt.ext hX13 bO1_6).1, (BoxAt.ext hX13 bO7_0).1, (BoxAt.ext hX13 bO7_1).1⟩) ?_
        refine wd_take 5 (.bool true) hR rfl (by kernel_rfl) rfl (by kernel_rfl) (fun w _ => by kernel_rfl) (⟨(BoxAt.ext hX147 bO88_0).1, (BoxAt.ext hX147 bO88_1).1, (BoxAt.ext hX13 bO1_0).1, (BoxAt.ext hX13 bO1_1).1, (BoxAt.ext hX13 bO1_2).1, (BoxAt.ext hX13 bO1_3).1, (BoxAt.ext hX13 bO1_4).1, (BoxAt.ext hX13 bO1_5).1, (BoxAt.ext hX13 bO1_6).1, (BoxAt.ext hX13 bO7_0).1, (BoxAt.ext hX13 bO7_1).1⟩) ?_
        refine wd_take 6 (.bool true) hR rfl (by kernel_rfl) rfl (by kernel_rfl) (fun w _ => by kernel_rfl) (⟨(BoxAt.ext hX147 bO88_0).1, (BoxAt.ext hX147 bO88_1).1, (BoxAt.ext hX13 bO1_0).1, (BoxAt.ext hX13 bO1_1).1, (BoxAt.ext hX13 bO1_2).1, (BoxAt.ext hX13 bO1_3).1, (BoxAt.ext hX13 bO1_4).1, (BoxAt.ext hX13 bO1_5).1, (BoxAt.ext hX13 bO1_6).1, (BoxAt.ext hX13 bO7_0).1, (BoxAt.ext hX13 bO7_1).1⟩) ?_
        refine wd_take 7 (.bool true) hR rfl (by kernel_rfl) rfl (by kernel_rfl) (fun w _ => by kernel_rfl) (⟨(BoxAt.ext hX147 bO88_0).1, (BoxAt.ext hX147 bO88_1).1, (BoxAt.ext hX13 bO1_0).1, (BoxAt.ext hX13 bO1_1).1, (BoxAt.ext hX13 bO1_2).1, (BoxAt.ext hX13 bO1_3).1, (BoxAt.ext hX13 bO1_4).1, (BoxAt.ext hX13 bO1_5).1, (BoxAt.ext hX13 bO1_6).1, (BoxAt.ext hX13 bO7_0).1, (BoxAt.ext hX13 bO7_1).1⟩) ?_
        refine wd_take 8 (.bool false) hR rfl (by kernel_rfl) rfl (by kernel_rfl) (fun w _ => by kernel_rfl) (⟨(BoxAt.ext hX147 bO88_0).1, (BoxAt.ext hX147 bO88_1).1, (BoxAt.ext hX13 bO1_0).1, (BoxAt.ext hX13 bO1_1).1, (BoxAt.ext hX13 bO1_2).1, (BoxAt.ext hX13 bO1_3).1, (BoxAt.ext hX13 bO1_4).1, (BoxAt.ext hX13 bO1_5).1, (BoxAt.ext hX13 bO1_6).1, (BoxAt.ext hX13 bO7_0).1, (BoxAt.ext hX13 bO7_1).1⟩) ?_
        refine wd_take 9 (.bool true) hR rfl (by kernel_rfl) rfl (by kernel_rfl) (fun w _ => by kernel_rfl) (⟨(BoxAt.ext hX147 bO88_0).1, (BoxAt.ext hX147 bO88_1).1, (BoxAt.ext hX13 bO1_0).1, (BoxAt.ext hX13 bO1_1).1, (BoxAt.ext hX13 bO1_2).1, (BoxAt.ext hX13 bO1_3).1, (BoxAt.ext hX13 bO1_4).1, (BoxAt.ext hX13 bO1_5).1, (BoxAt.ext hX13 bO1_6).1, (BoxAt.ext hX13 bO7_0).1, (BoxAt.ext hX13 bO7_1).1⟩) ?_
        refine wd_take 10 (.bool true) hR rfl (by kernel_rfl) rfl (by kernel_rfl) (fun w _ => by kernel_rfl) (⟨(BoxAt.ext hX147 bO88_0).1, (BoxAt.ext hX147 bO88_1).1, (BoxAt.ext hX13 bO1_0).1, (BoxAt.ext hX13 bO1_1).1, (BoxAt.ext hX13 bO1_2).1, (BoxAt.ext hX13 bO1_3).1, (BoxAt.ext hX13 bO1_4).1, (BoxAt.ext hX13 bO1_5).1, (BoxAt.ext hX13 bO1_6).1, (BoxAt.ext hX13 bO7_0).1, (BoxAt.ext hX13 bO7_1).1⟩) ?_
        refine wd_take 11 (.bool true) hR rfl (by kernel_rfl) rfl (by kernel_rfl) (fun w _ => by kernel_rfl) (⟨(BoxAt.ext hX147 bO88_0).1, (BoxAt.ext hX147 bO88_1).1, (BoxAt.ext hX13 bO1_0).1, (BoxAt.ext hX13 bO1_1).1, (BoxAt.ext hX13 bO1_2).1, (BoxAt.ext hX13 bO1_3).1, (BoxAt.ext hX13 bO1_4).1, (BoxAt.ext hX13 bO1_5).1, (BoxAt.ext hX13 bO1_6).1, (BoxAt.ext hX13 bO7_0).1, (BoxAt.ext hX13 bO7_1).1⟩) ?_
        refine wd_take 12 (.agg #[.int .i64 17, .int .i64 27]) hR rfl (by kernel_rfl) rfl (by kernel_rfl) (fun w hS => ex_load rfl (by kernel_rfl) (ld26 (hS.1) (hS.2.1))) (⟨(BoxAt.ext hX147 bO88_0).1, (BoxAt.ext hX147 bO88_1).1, (BoxAt.ext hX13 bO1_0).1, (BoxAt.ext hX13 bO1_1).1, (BoxAt.ext hX13 bO1_2).1, (BoxAt.ext hX13 bO1_3).1, (BoxAt.ext hX13 bO1_4).1, (BoxAt.ext hX13 bO1_5).1, (BoxAt.ext hX13 bO1_6).1, (BoxAt.ext hX13 bO7_0).1, (BoxAt.ext hX13 bO7_1).1⟩) ?_
        refine wd_take 13 (.agg #[.int .i64 17, .int .i64 27]) hR rfl (by kernel_rfl) rfl (by kernel_rfl) (fun w _ => by kernel_rfl) (⟨(BoxAt.ext hX147 bO88_0).1, (BoxAt.ext hX147 bO88_1).1, (BoxAt.ext hX13 bO1_0).1, (BoxAt.ext hX13 bO1_1).1, (BoxAt.ext hX13 bO1_2).1, (BoxAt.ext hX13 bO1_3).1, (BoxAt.ext hX13 bO1_4).1, (BoxAt.ext hX13 bO1_5).1, (BoxAt.ext hX13 bO1_6).1, (BoxAt.ext hX13 bO7_0).1, (BoxAt.ext hX13 bO7_1).1⟩) ?_
        refine wd_take 14 (.bool true) hR rfl (by kernel_rfl) rfl (by kernel_rfl) (fun w _ => by kernel_rfl) (⟨(BoxAt.ext hX147 bO88_0).1, (BoxAt.ext hX147 bO88_1).1, (BoxAt.ext hX13 bO1_0).1, (BoxAt.ext hX13 bO1_1).1, (BoxAt.ext hX13 bO1_2).1, (BoxAt.ext hX13 bO1_3).1, (BoxAt.ext hX13 bO1_4).1, (BoxAt.ext hX13 bO1_5).1, (BoxAt.ext hX13 bO1_6).1, (BoxAt.ext hX13 bO7_0).1, (BoxAt.ext hX13 bO7_1).1⟩) ?_
        refine wd_take 15 (.bool true) hR rfl (by kernel_rfl) rfl (by kernel_rfl) (fun w _ => by kernel_rfl) (⟨(BoxAt.ext hX147 bO88_0).1, (BoxAt.ext hX147 bO88_1).1, (BoxAt.ext hX13 bO1_0).1, (BoxAt.ext hX13 bO1_1).1, (BoxAt.ext hX13 bO1_2).1, (BoxAt.ext hX13 bO1_3).1, (BoxAt.ext hX13 bO1_4).1, (BoxAt.ext hX13 bO1_5).1, (BoxAt.ext hX13 bO1_6).1, (BoxAt.ext hX13 bO7_0).1, (BoxAt.ext hX13 bO7_1).1⟩) ?_
        refine wd_take 16 (.bool true) hR rfl (by kernel_rfl) rfl (by kernel_rfl) (fun w _ => by kernel_rfl) (⟨(BoxAt.ext hX147 bO88_0).1, (BoxAt.ext hX147 bO88_1).1, (BoxAt.ext hX13 bO1_0).1, (BoxAt.ext hX13 bO1_1).1, (BoxAt.ext hX13 bO1_2).1, (BoxAt.ext hX13 bO1_3).1, (BoxAt.ext hX13 bO1_4).1, (BoxAt.ext hX13 bO1_5).1, (BoxAt.ext hX13 bO1_6).1, (BoxAt.ext hX13 bO7_0).1, (BoxAt.ext hX13 bO7_1).1⟩) ?_
        refine wd_take 17 (.int .i64 2) hR rfl (by kernel_rfl) rfl (by kernel_rfl) (fun w _ => by kernel_rfl) (⟨(BoxAt.ext hX147 bO88_0).1, (BoxAt.ext hX147 bO88_1).1, (BoxAt.ext hX13 bO1_0).1, (BoxAt.ext hX13 bO1_1).1, (BoxAt.ext hX13 bO1_2).1, (BoxAt.ext hX13 bO1_3).1, (BoxAt.ext hX13 bO1_4).1, (BoxAt.ext hX13 bO1_5).1, (BoxAt.ext hX13 bO1_6).1, (BoxAt.ext hX13 bO7_0).1, (BoxAt.ext hX13 bO7_1).1⟩) ?_
        refine wd_take 18 (.bool true) hR rfl (by kernel_rfl) rfl (by kernel_rfl) (fun w _ => by kernel_rfl) (⟨(BoxAt.ext hX147 bO88_0).1, (BoxAt.ext hX147 bO88_1).1, (BoxAt.ext hX13 bO1_0).1, (BoxAt.ext hX13 bO1_1).1, (BoxAt.ext hX13 bO1_2).1, (BoxAt.ext hX13 bO1_3).1, (BoxAt.ext hX13 bO1_4).1, (BoxAt.ext hX13 bO1_5).1, (BoxAt.ext hX13 bO1_6).1, (BoxAt.ext hX13 bO7_0).1, (BoxAt.ext hX13 bO7_1).1⟩) ?_
        refine wd_take 19 (.bool true) hR rfl (by kernel_rfl) rfl (by kernel_rfl) (fun w _ => by kernel_rfl) (⟨(BoxAt.ext hX147 bO88_0).1, (BoxAt.ext hX147 bO88_1).1, (BoxAt.ext hX13 bO1_0).1, (BoxAt.ext hX13 bO1_1).1, (BoxAt.ext hX13 bO1_2).1, (BoxAt.ext hX13 bO1_3).1, (BoxAt.ext hX13 bO1_4).1, (BoxAt.ext hX13 bO1_5).1, (BoxAt.ext hX13 bO1_6).1, (BoxAt.ext hX13 bO7_0).1, (BoxAt.ext hX13 bO7_1).1⟩) ?_
        refine wd_take 20 (.bool true) hR rfl (by kernel_rfl) rfl (by kernel_rfl) (fun w _ => by kernel_rfl) (⟨(BoxAt.ext hX147 bO88_0).1, (BoxAt.ext hX147 bO88_1).1, (BoxAt.ext hX13 bO1_0).1, (BoxAt.ext hX13 bO1_1).1, (BoxAt.ext hX13 bO1_2).1, (BoxAt.ext hX13 bO1_3).1, (BoxAt.ext hX13 bO1_4).1, (BoxAt.ext hX13 bO1_5).1, (BoxAt.ext hX13 bO1_6).1, (BoxAt.ext hX13 bO7_0).1, (BoxAt.ext hX13 bO7_1).1⟩) ?_
        refine wd_take 21 (.int .i64 ((Swath.suns Swath.o0 Swath.s0 2).1 : Int)) hR rfl (by kernel_rfl) rfl (by kernel_rfl) (fun w _ => by kernel_rfl) (⟨(BoxAt.ext hX147 bO88_0).1, (BoxAt.ext hX147 bO88_1).1, (BoxAt.ext hX13 bO1_0).1, (BoxAt.ext hX13 bO1_1).1, (BoxAt.ext hX13 bO1_2).1, (BoxAt.ext hX13 bO1_3).1, (BoxAt.ext hX13 bO1_4).1, (BoxAt.ext hX13 bO1_5).1, (BoxAt.ext hX13 bO1_6).1, (BoxAt.ext hX13 bO7_0).1, (BoxAt.ext hX13 bO7_1).1⟩) ?_
        refine wd_take 22 (.int .i64 ((Swath.suns Swath.o0 Swath.s0 2).2 : Int)) hR rfl (by kernel_rfl) rfl (by kernel_rfl) (fun w _ => by kernel_rfl) (⟨(BoxAt.ext hX147 bO88_0).1, (BoxAt.ext hX147 bO88_1).1, (BoxAt.ext hX13 bO1_0).1, (BoxAt.ext hX13 bO1_1).1, (BoxAt.ext hX13 bO1_2).1, (BoxAt.ext hX13 bO1_3).1, (BoxAt.ext hX13 bO1_4).1, (BoxAt.ext hX13 bO1_5).1, (BoxAt.ext hX13 bO1_6).1, (BoxAt.ext hX13 bO7_0).1, (BoxAt.ext hX13 bO7_1).1⟩) ?_
        refine wd_take 23 (.bool true) hR rfl (by kernel_rfl) rfl (by kernel_rfl) (fun w _ => ev_dec (show _ = Result.ok (Next.value (Value.bool (decide (((Swath.suns Swath.o0 Swath.s0 2).1 : Int) ≤ ((Swath.suns Swath.o0 Swath.s0 2).2 : Int))))) _ from by kernel_rfl) (of_decide_eq_true (by kernel_rfl))) (⟨(BoxAt.ext hX147 bO88_0).1, (BoxAt.ext hX147 bO88_1).1, (BoxAt.ext hX13 bO1_0).1, (BoxAt.ext hX13 bO1_1).1, (BoxAt.ext hX13 bO1_2).1, (BoxAt.ext hX13 bO1_3).1, (BoxAt.ext hX13 bO1_4).1, (BoxAt.ext hX13 bO1_5).1, (BoxAt.ext hX13 bO1_6).1, (BoxAt.ext hX13 bO7_0).1, (BoxAt.ext hX13 bO7_1).1⟩) ?_
        refine wd_take 24 (.bool true) hR rfl (by kernel_rfl) rfl (by kernel_rfl) (fun w _ => by kernel_rfl) (⟨(BoxAt.ext hX147 bO88_0).1, (BoxAt.ext hX147 bO88_1).1, (BoxAt.ext hX13 bO1_0).1, (BoxAt.ext hX13 bO1_1).1, (BoxAt.ext hX13 bO1_2).1, (BoxAt.ext hX13 bO1_3).1, (BoxAt.ext hX13 bO1_4).1, (BoxAt.ext hX13 bO1_5).1, (BoxAt.ext hX13 bO1_6).1, (BoxAt.ext hX13 bO7_0).1, (BoxAt.ext hX13 bO7_1).1⟩) ?_
        refine wd_take 25 (.bool true) hR rfl (by kernel_rfl) rfl (by kernel_rfl) (fun w _ => by kernel_rfl) (⟨(BoxAt.ext hX147 bO88_0).1, (BoxAt.ext hX147 bO88_1).1, (BoxAt.ext hX13 bO1_0).1, (BoxAt.ext hX13 bO1_1).1, (BoxAt.ext hX13 bO1_2).1, (BoxAt.ext hX13 bO1_3).1, (BoxAt.ext hX13 bO1_4).1, (BoxAt.ext hX13 bO1_5).1, (BoxAt.ext hX13 bO1_6).1, (BoxAt.ext hX13 bO7_0).1, (BoxAt.ext hX13 bO7_1).1⟩) ?_
        refine wd_take 26 (.agg #[.int .i64 200, .int .i64 0, .int .i64 0, .int .i64 20000, .int .i64 10000, .int .i64 0, .int .i64 1]) hR rfl (by kernel_rfl) rfl (by kernel_rfl) (fun w hS => ex_load rfl (by kernel_rfl) (ld24 (hS.2.2.1) (hS.2.2.2.1) (hS.2.2.2.2.1) (hS.2.2.2.2.2.1) (hS.2.2.2.2.2.2.1) (hS.2.2.2.2.2.2.2.1) (hS.2.2.2.2.2.2.2.2.1))) (⟨(BoxAt.ext hX147 bO88_0).1, (BoxAt.ext hX147 bO88_1).1, (BoxAt.ext hX13 bO1_0).1, (BoxAt.ext hX13 bO1_1).1, (BoxAt.ext hX13 bO1_2).1, (BoxAt.ext hX13 bO1_3).1, (BoxAt.ext hX13 bO1_4).1, (BoxAt.ext hX13 bO1_5).1, (BoxAt.ext hX13 bO1_6).1, (BoxAt.ext hX13 bO7_0).1, (BoxAt.ext hX13 bO7_1).1⟩) ?_
        refine wd_take 27 (.agg #[.int .i64 10, .int .i64 20]) hR rfl (by kernel_rfl) rfl (by kernel_rfl) (fun w hS => ex_load rfl (by kernel_rfl) (ld26 (hS.2.2.2.2.2.2.2.2.2.1) (hS.2.2.2.2.2.2.2.2.2.2))) (⟨(BoxAt.ext hX147 bO88_0).1, (BoxAt.ext hX147 bO88_1).1, (BoxAt.ext hX13 bO1_0).1, (BoxAt.ext hX13 bO1_1).1, (BoxAt.ext hX13 bO1_2).1, (BoxAt.ext hX13 bO1_3).1, (BoxAt.ext hX13 bO1_4).1, (BoxAt.ext hX13 bO1_5).1, (BoxAt.ext hX13 bO1_6).1, (BoxAt.ext hX13 bO7_0).1, (BoxAt.ext hX13 bO7_1).1⟩) ?_
        refine wd_step 28 hR rfl (by kernel_rfl) (by kernel_rfl) (by kernel_rfl) (sn_call (f := 22) (args := #[.agg #[.int .i64 200, .int .i64 0, .int .i64 0, .int .i64 20000, .int .i64 10000, .int .i64 0, .int .i64 1], .agg #[.int .i64 10, .int .i64 20], .int .i64 4]) (by kernel_rfl) ((sValid_r (r := true) Swath.o0 Swath.s0 4 _ (by kernel_rfl)).mono ?_))
        rintro e w366 ⟨rfl, hb⟩
        replace hE := hE.trans hb; replace hX13 := hX13.trans hb; replace hX26 := hX26.trans hb; replace hX39 := hX39.trans hb; replace hX52 := hX52.trans hb; replace hX72 := hX72.trans hb; replace hX147 := hX147.trans hb; replace hX222 := hX222.trans hb; replace hX225 := hX225.trans hb; replace hX234 := hX234.trans hb; replace hX276 := hX276.trans hb; replace hX363 := hX363.trans hb; have hs367 := hb.size; clear hb
        refine ⟨_, rfl, ⟨(BoxAt.ext hX147 bO88_0).1, (BoxAt.ext hX147 bO88_1).1, (BoxAt.ext hX13 bO1_0).1, (BoxAt.ext hX13 bO1_1).1, (BoxAt.ext hX13 bO1_2).1, (BoxAt.ext hX13 bO1_3).1, (BoxAt.ext hX13 bO1_4).1, (BoxAt.ext hX13 bO1_5).1, (BoxAt.ext hX13 bO1_6).1, (BoxAt.ext hX13 bO7_0).1, (BoxAt.ext hX13 bO7_1).1⟩, ?_⟩
        refine wd_take 29 (.bool true) hR rfl (by kernel_rfl) rfl (by kernel_rfl) (fun w _ => by kernel_rfl) (⟨(BoxAt.ext hX147 bO88_0).1, (BoxAt.ext hX147 bO88_1).1, (BoxAt.ext hX13 bO1_0).1, (BoxAt.ext hX13 bO1_1).1, (BoxAt.ext hX13 bO1_2).1, (BoxAt.ext hX13 bO1_3).1, (BoxAt.ext hX13 bO1_4).1, (BoxAt.ext hX13 bO1_5).1, (BoxAt.ext hX13 bO1_6).1, (BoxAt.ext hX13 bO7_0).1, (BoxAt.ext hX13 bO7_1).1⟩) ?_
        refine wd_take 30 (.bool true) hR rfl (by kernel_rfl) rfl (by kernel_rfl) (fun w _ => by kernel_rfl) (⟨(BoxAt.ext hX147 bO88_0).1, (BoxAt.ext hX147 bO88_1).1, (BoxAt.ext hX13 bO1_0).1, (BoxAt.ext hX13 bO1_1).1, (BoxAt.ext hX13 bO1_2).1, (BoxAt.ext hX13 bO1_3).1, (BoxAt.ext hX13 bO1_4).1, (BoxAt.ext hX13 bO1_5).1, (BoxAt.ext hX13 bO1_6).1, (BoxAt.ext hX13 bO7_0).1, (BoxAt.ext hX13 bO7_1).1⟩) ?_
        refine wd_take 31 (.agg #[.int .i64 200, .int .i64 0, .int .i64 0, .int .i64 20000, .int .i64 10000, .int .i64 0, .int .i64 1]) hR rfl (by kernel_rfl) rfl (by kernel_rfl) (fun w hS => ex_load rfl (by kernel_rfl) (ld24 (hS.2.2.1) (hS.2.2.2.1) (hS.2.2.2.2.1) (hS.2.2.2.2.2.1) (hS.2.2.2.2.2.2.1) (hS.2.2.2.2.2.2.2.1) (hS.2.2.2.2.2.2.2.2.1))) (⟨(BoxAt.ext hX147 bO88_0).1, (BoxAt.ext hX147 bO88_1).1, (BoxAt.ext hX13 bO1_0).1, (BoxAt.ext hX13 bO1_1).1, (BoxAt.ext hX13 bO1_2).1, (BoxAt.ext hX13 bO1_3).1, (BoxAt.ext hX13 bO1_4).1, (BoxAt.ext hX13 bO1_5).1, (BoxAt.ext hX13 bO1_6).1, (BoxAt.ext hX13 bO7_0).1, (BoxAt.ext hX13 bO7_1).1⟩) ?_
        refine wd_take 32 (.agg #[.int .i64 10, .int .i64 20]) hR rfl (by kernel_rfl) rfl (by kernel_rfl) (fun w hS => ex_load rfl (by kernel_rfl) (ld26 (hS.2.2.2.2.2.2.2.2.2.1) (hS.2.2.2.2.2.2.2.2.2.2))) (⟨(BoxAt.ext hX147 bO88_0).1, (BoxAt.ext hX147 bO88_1).1, (BoxAt.ext hX13 bO1_0).1, (BoxAt.ext hX13 bO1_1).1, (BoxAt.ext hX13 bO1_2).1, (BoxAt.ext hX13 bO1_3).1, (BoxAt.ext hX13 bO1_4).1, (BoxAt.ext hX13 bO1_5).1, (BoxAt.ext hX13 bO1_6).1, (BoxAt.ext hX13 bO7_0).1, (BoxAt.ext hX13 bO7_1).1⟩) ?_
        refine wd_step 33 hR rfl (by kernel_rfl) (by kernel_rfl) (by kernel_rfl) (sn_call (f := 22) (args := #[.agg #[.int .i64 200, .int .i64 0, .int .i64 0, .int .i64 20000, .int .i64 10000, .int .i64 0, .int .i64 1], .agg #[.int .i64 10, .int .i64 20], .int .i64 5]) (by kernel_rfl) ((sValid_r (r := false) Swath.o0 Swath.s0 5 _ (by kernel_rfl)).mono ?_))
        rintro e w368 ⟨rfl, hb⟩
        replace hE := hE.trans hb; replace hX13 := hX13.trans hb; replace hX26 := hX26.trans hb; replace hX39 := hX39.trans hb; replace hX52 := hX52.trans hb; replace hX72 := hX72.trans hb; replace hX147 := hX147.trans hb; replace hX222 := hX222.trans hb; replace hX225 := hX225.trans hb; replace hX234 := hX234.trans hb; replace hX276 := hX276.trans hb; replace hX363 := hX363.trans hb; have hs369 := hb.size; clear hb
        refine ⟨_, rfl, ⟨(BoxAt.ext hX147 bO88_0).1, (BoxAt.ext hX147 bO88_1).1, (BoxAt.ext hX13 bO1_0).1, (BoxAt.ext hX13 bO1_1).1, (BoxAt.ext hX13 bO1_2).1, (BoxAt.ext hX13 bO1_3).1, (BoxAt.ext hX13 bO1_4).1, (BoxAt.ext hX13 bO1_5).1, (BoxAt.ext hX13 bO1_6).1, (BoxAt.ext hX13 bO7_0).1, (BoxAt.ext hX13 bO7_1).1⟩, ?_⟩
        refine wd_take 34 (.bool true) hR rfl (by kernel_rfl) rfl (by kernel_rfl) (fun w _ => by kernel_rfl) (⟨(BoxAt.ext hX147 bO88_0).1, (BoxAt.ext hX147 bO88_1).1, (BoxAt.ext hX13 bO1_0).1, (BoxAt.ext hX13 bO1_1).1, (BoxAt.ext hX13 bO1_2).1, (BoxAt.ext hX13 bO1_3).1, (BoxAt.ext hX13 bO1_4).1, (BoxAt.ext hX13 bO1_5).1, (BoxAt.ext hX13 bO1_6).1, (BoxAt.ext hX13 bO7_0).1, (BoxAt.ext hX13 bO7_1).1⟩) ?_
        refine wd_take 35 (.bool true) hR rfl (by kernel_rfl) rfl (by kernel_rfl) (fun w _ => by kernel_rfl) (⟨(BoxAt.ext hX147 bO88_0).1, (BoxAt.ext hX147 bO88_1).1, (BoxAt.ext hX13 bO1_0).1, (BoxAt.ext hX13 bO1_1).1, (BoxAt.ext hX13 bO1_2).1, (BoxAt.ext hX13 bO1_3).1, (BoxAt.ext hX13 bO1_4).1, (BoxAt.ext hX13 bO1_5).1, (BoxAt.ext hX13 bO1_6).1, (BoxAt.ext hX13 bO7_0).1, (BoxAt.ext hX13 bO7_1).1⟩) ?_
        refine wd_take 36 (.bool true) hR rfl (by kernel_rfl) rfl (by kernel_rfl) (fun w _ => by kernel_rfl) (⟨(BoxAt.ext hX147 bO88_0).1, (BoxAt.ext hX147 bO88_1).1, (BoxAt.ext hX13 bO1_0).1, (BoxAt.ext hX13 bO1_1).1, (BoxAt.ext hX13 bO1_2).1, (BoxAt.ext hX13 bO1_3).1, (BoxAt.ext hX13 bO1_4).1, (BoxAt.ext hX13 bO1_5).1, (BoxAt.ext hX13 bO1_6).1, (BoxAt.ext hX13 bO7_0).1, (BoxAt.ext hX13 bO7_1).1⟩) ?_
        refine wd_take 37 (.agg #[.int .i64 200, .int .i64 0, .int .i64 0, .int .i64 20000, .int .i64 10000, .int .i64 0, .int .i64 1]) hR rfl (by kernel_rfl) rfl (by kernel_rfl) (fun w hS => ex_load rfl (by kernel_rfl) (ld24 (hS.2.2.1) (hS.2.2.2.1) (hS.2.2.2.2.1) (hS.2.2.2.2.2.1) (hS.2.2.2.2.2.2.1) (hS.2.2.2.2.2.2.2.1) (hS.2.2.2.2.2.2.2.2.1))) (⟨(BoxAt.ext hX147 bO88_0).1, (BoxAt.ext hX147 bO88_1).1, (BoxAt.ext hX13 bO1_0).1, (BoxAt.ext hX13 bO1_1).1, (BoxAt.ext hX13 bO1_2).1, (BoxAt.ext hX13 bO1_3).1, (BoxAt.ext hX13 bO1_4).1, (BoxAt.ext hX13 bO1_5).1, (BoxAt.ext hX13 bO1_6).1, (BoxAt.ext hX13 bO7_0).1, (BoxAt.ext hX13 bO7_1).1⟩) ?_
        refine wd_take 38 (.agg #[.int .i64 10, .int .i64 20]) hR rfl (by kernel_rfl) rfl (by kernel_rfl) (fun w hS => ex_load rfl (by kernel_rfl) (ld26 (hS.2.2.2.2.2.2.2.2.2.1) (hS.2.2.2.2.2.2.2.2.2.2))) (⟨(BoxAt.ext hX147 bO88_0).1, (BoxAt.ext hX147 bO88_1).1, (BoxAt.ext hX13 bO1_0).1, (BoxAt.ext hX13 bO1_1).1, (BoxAt.ext hX13 bO1_2).1, (BoxAt.ext hX13 bO1_3).1, (BoxAt.ext hX13 bO1_4).1, (BoxAt.ext hX13 bO1_5).1, (BoxAt.ext hX13 bO1_6).1, (BoxAt.ext hX13 bO7_0).1, (BoxAt.ext hX13 bO7_1).1⟩) ?_
        refine wd_step 39 hR rfl (by kernel_rfl) (by kernel_rfl) (by kernel_rfl) (sn_newS (us := #[.int .i64 3]) (t := 3) (k := 1) (c := 1) (by kernel_rfl) ?_)
        intro O370 X371 hO hOs hb hbx
        have hzO370 := hO; have hyO370 := hOs; clear hO hOs
        have bO370_0 : BoxAt X371 O370 0 (.int .i64 3) := hbx 0 _ rfl
        clear hbx; replace hE := hE.trans hb; replace hX13 := hX13.trans hb; replace hX26 := hX26.trans hb; replace hX39 := hX39.trans hb; replace hX52 := hX52.trans hb; replace hX72 := hX72.trans hb; replace hX147 := hX147.trans hb; replace hX222 := hX222.trans hb; replace hX225 := hX225.trans hb; replace hX234 := hX234.trans hb; replace hX276 := hX276.trans hb; replace hX363 := hX363.trans hb; have hs372 := hb.size; clear hb; have lt373 := bO370_0.lt
        refine ⟨⟨(BoxAt.ext hX147 bO88_0).1, (BoxAt.ext hX147 bO88_1).1, (BoxAt.ext hX13 bO1_0).1, (BoxAt.ext hX13 bO1_1).1, (BoxAt.ext hX13 bO1_2).1, (BoxAt.ext hX13 bO1_3).1, (BoxAt.ext hX13 bO1_4).1, (BoxAt.ext hX13 bO1_5).1, (BoxAt.ext hX13 bO1_6).1, (BoxAt.ext hX13 bO7_0).1, (BoxAt.ext hX13 bO7_1).1⟩, ?_⟩
        have hI377 : IntsAt X371 (some ⟨O370, 0, none⟩) ((([3] : List Nat)).map fun y => ((y : Nat) : Int)) := (.inr ⟨O370, 0, rfl, fun i hi => by
          match i, hi with
          | 0, _ => exact bO370_0.1
          | _ + 1, hi => exact absurd hi (by simp)⟩)
        refine wd_step 40 hR rfl (by kernel_rfl) (by kernel_rfl) (by kernel_rfl) (sn_call (f := 37) (args := #[.int .i64 12, .slice (some ⟨O370, 0, none⟩) 1 1]) (by kernel_rfl) ((strip_c (x := 12) (ys := [3]) _ (by decide) hI377 rfl (by decide) (by decide) (Ext.refl _)).mono ?_))
        rintro e w378 ⟨B374, rfl, hn375, hr376, hb⟩
        replace hE := hE.trans hb; replace hX13 := hX13.trans hb; replace hX26 := hX26.trans hb; replace hX39 := hX39.trans hb; replace hX52 := hX52.trans hb; replace hX72 := hX72.trans hb; replace hX147 := hX147.trans hb; replace hX222 := hX222.trans hb; replace hX225 := hX225.trans hb; replace hX234 := hX234.trans hb; replace hX276 := hX276.trans hb; replace hX363 := hX363.trans hb; replace bO370_0 := BoxAt.ext hb bO370_0; have hs379 := hb.size; clear hb; have lt380 := hr376.lt
        refine ⟨_, rfl, ⟨(BoxAt.ext hX147 bO88_0).1, (BoxAt.ext hX147 bO88_1).1, (BoxAt.ext hX13 bO1_0).1, (BoxAt.ext hX13 bO1_1).1, (BoxAt.ext hX13 bO1_2).1, (BoxAt.ext hX13 bO1_3).1, (BoxAt.ext hX13 bO1_4).1, (BoxAt.ext hX13 bO1_5).1, (BoxAt.ext hX13 bO1_6).1, (BoxAt.ext hX13 bO7_0).1, (BoxAt.ext hX13 bO7_1).1⟩, ?_⟩
        refine wd_step 41 hR rfl (by kernel_rfl) (by kernel_rfl) (by kernel_rfl) (sn_call (f := 24) (args := #[.agg #[.int .i64 200, .int .i64 0, .int .i64 0, .int .i64 20000, .int .i64 10000, .int .i64 0, .int .i64 1], .agg #[.int .i64 10, .int .i64 20], .int .i64 2, .agg #[.slice (some ⟨B374, 0, none⟩) 24 24]]) (by kernel_rfl) ((Shows_r (o := Swath.o0) (s := Swath.s0) (lk := 2) (r := true) _ _ (RowsAt.va hr376 (by kernel_rfl)).aa (Ext.refl _) (by kernel_rfl)).mono ?_))
        rintro e w381 ⟨rfl, hb⟩
        replace hE := hE.trans hb; replace hX13 := hX13.trans hb; replace hX26 := hX26.trans hb; replace hX39 := hX39.trans hb; replace hX52 := hX52.trans hb; replace hX72 := hX72.trans hb; replace hX147 := hX147.trans hb; replace hX222 := hX222.trans hb; replace hX225 := hX225.trans hb; replace hX234 := hX234.trans hb; replace hX276 := hX276.trans hb; replace hX363 := hX363.trans hb; replace bO370_0 := BoxAt.ext hb bO370_0; replace hr376 := hr376.ext hb; have hs382 := hb.size; clear hb
        refine ⟨_, rfl, ⟨(BoxAt.ext hX147 bO88_0).1, (BoxAt.ext hX147 bO88_1).1, (BoxAt.ext hX13 bO1_0).1, (BoxAt.ext hX13 bO1_1).1, (BoxAt.ext hX13 bO1_2).1, (BoxAt.ext hX13 bO1_3).1, (BoxAt.ext hX13 bO1_4).1, (BoxAt.ext hX13 bO1_5).1, (BoxAt.ext hX13 bO1_6).1, (BoxAt.ext hX13 bO7_0).1, (BoxAt.ext hX13 bO7_1).1⟩, ?_⟩
        refine wd_take 42 (.bool true) hR rfl (by kernel_rfl) rfl (by kernel_rfl) (fun w _ => by kernel_rfl) (⟨(BoxAt.ext hX147 bO88_0).1, (BoxAt.ext hX147 bO88_1).1, (BoxAt.ext hX13 bO1_0).1, (BoxAt.ext hX13 bO1_1).1, (BoxAt.ext hX13 bO1_2).1, (BoxAt.ext hX13 bO1_3).1, (BoxAt.ext hX13 bO1_4).1, (BoxAt.ext hX13 bO1_5).1, (BoxAt.ext hX13 bO1_6).1, (BoxAt.ext hX13 bO7_0).1, (BoxAt.ext hX13 bO7_1).1⟩) ?_
        refine wd_take 43 (.bool true) hR rfl (by kernel_rfl) rfl (by kernel_rfl) (fun w _ => by kernel_rfl) (⟨(BoxAt.ext hX147 bO88_0).1, (BoxAt.ext hX147 bO88_1).1, (BoxAt.ext hX13 bO1_0).1, (BoxAt.ext hX13 bO1_1).1, (BoxAt.ext hX13 bO1_2).1, (BoxAt.ext hX13 bO1_3).1, (BoxAt.ext hX13 bO1_4).1, (BoxAt.ext hX13 bO1_5).1, (BoxAt.ext hX13 bO1_6).1, (BoxAt.ext hX13 bO7_0).1, (BoxAt.ext hX13 bO7_1).1⟩) ?_
        refine wd_take 44 (.agg #[.int .i64 200, .int .i64 0, .int .i64 0, .int .i64 20000, .int .i64 10000, .int .i64 0, .int .i64 1]) hR rfl (by kernel_rfl) rfl (by kernel_rfl) (fun w hS => ex_load rfl (by kernel_rfl) (ld24 (hS.2.2.1) (hS.2.2.2.1) (hS.2.2.2.2.1) (hS.2.2.2.2.2.1) (hS.2.2.2.2.2.2.1) (hS.2.2.2.2.2.2.2.1) (hS.2.2.2.2.2.2.2.2.1))) (⟨(BoxAt.ext hX147 bO88_0).1, (BoxAt.ext hX147 bO88_1).1, (BoxAt.ext hX13 bO1_0).1, (BoxAt.ext hX13 bO1_1).1, (BoxAt.ext hX13 bO1_2).1, (BoxAt.ext hX13 bO1_3).1, (BoxAt.ext hX13 bO1_4).1, (BoxAt.ext hX13 bO1_5).1, (BoxAt.ext hX13 bO1_6).1, (BoxAt.ext hX13 bO7_0).1, (BoxAt.ext hX13 bO7_1).1⟩) ?_
        refine wd_take 45 (.agg #[.int .i64 10, .int .i64 20]) hR rfl (by kernel_rfl) rfl (by kernel_rfl) (fun w hS => ex_load rfl (by kernel_rfl) (ld26 (hS.2.2.2.2.2.2.2.2.2.1) (hS.2.2.2.2.2.2.2.2.2.2))) (⟨(BoxAt.ext hX147 bO88_0).1, (BoxAt.ext hX147 bO88_1).1, (BoxAt.ext hX13 bO1_0).1, (BoxAt.ext hX13 bO1_1).1, (BoxAt.ext hX13 bO1_2).1, (BoxAt.ext hX13 bO1_3).1, (BoxAt.ext hX13 bO1_4).1, (BoxAt.ext hX13 bO1_5).1, (BoxAt.ext hX13 bO1_6).1, (BoxAt.ext hX13 bO7_0).1, (BoxAt.ext hX13 bO7_1).1⟩) ?_
        refine wd_step 46 hR rfl (by kernel_rfl) (by kernel_rfl) (by kernel_rfl) (sn_newS (us := #[.int .i64 4]) (t := 3) (k := 1) (c := 1) (by kernel_rfl) ?_)
        intro O383 X384 hO hOs hb hbx
        have hzO383 := hO; have hyO383 := hOs; clear hO hOs
        have bO383_0 : BoxAt X384 O383 0 (.int .i64 4) := hbx 0 _ rfl
        clear hbx; replace hE := hE.trans hb; replace hX13 := hX13.trans hb; replace hX26 := hX26.trans hb; replace hX39 := hX39.trans hb; replace hX52 := hX52.trans hb; replace hX72 := hX72.trans hb; replace hX147 := hX147.trans hb; replace hX222 := hX222.trans hb; replace hX225 := hX225.trans hb; replace hX234 := hX234.trans hb; replace hX276 := hX276.trans hb; replace hX363 := hX363.trans hb; replace bO370_0 := BoxAt.ext hb bO370_0; replace hr376 := hr376.ext hb; have hs385 := hb.size; clear hb; have lt386 := bO383_0.lt
        refine ⟨⟨(BoxAt.ext hX147 bO88_0).1, (BoxAt.ext hX147 bO88_1).1, (BoxAt.ext hX13 bO1_0).1, (BoxAt.ext hX13 bO1_1).1, (BoxAt.ext hX13 bO1_2).1, (BoxAt.ext hX13 bO1_3).1, (BoxAt.ext hX13 bO1_4).1, (BoxAt.ext hX13 bO1_5).1, (BoxAt.ext hX13 bO1_6).1, (BoxAt.ext hX13 bO7_0).1, (BoxAt.ext hX13 bO7_1).1⟩, ?_⟩
        have hI390 : IntsAt X384 (some ⟨O383, 0, none⟩) ((([4] : List Nat)).map fun y => ((y : Nat) : Int)) := (.inr ⟨O383, 0, rfl, fun i hi => by
          match i, hi with
          | 0, _ => exact bO383_0.1
          | _ + 1, hi => exact absurd hi (by simp)⟩)
        refine wd_step 47 hR rfl (by kernel_rfl) (by kernel_rfl) (by kernel_rfl) (sn_call (f := 37) (args := #[.int .i64 12, .slice (some ⟨O383, 0, none⟩) 1 1]) (by kernel_rfl) ((strip_c (x := 12) (ys := [4]) _ (by decide) hI390 rfl (by decide) (by decide) (Ext.refl _)).mono ?_))
        rintro e w391 ⟨B387, rfl, hn388, hr389, hb⟩
        replace hE := hE.trans hb; replace hX13 := hX13.trans hb; replace hX26 := hX26.trans hb; replace hX39 := hX39.trans hb; replace hX52 := hX52.trans hb; replace hX72 := hX72.trans hb; replace hX147 := hX147.trans hb; replace hX222 := hX222.trans hb; replace hX225 := hX225.trans hb; replace hX234 := hX234.trans hb; replace hX276 := hX276.trans hb; replace hX363 := hX363.trans hb; replace bO370_0 := BoxAt.ext hb bO370_0; replace hr376 := hr376.ext hb; replace bO383_0 := BoxAt.ext hb bO383_0; have hs392 := hb.size; clear hb; have lt393 := hr389.lt
        refine ⟨_, rfl, ⟨(BoxAt.ext hX147 bO88_0).1, (BoxAt.ext hX147 bO88_1).1, (BoxAt.ext hX13 bO1_0).1, (BoxAt.ext hX13 bO1_1).1, (BoxAt.ext hX13 bO1_2).1, (BoxAt.ext hX13 bO1_3).1, (BoxAt.ext hX13 bO1_4).1, (BoxAt.ext hX13 bO1_5).1, (BoxAt.ext hX13 bO1_6).1, (BoxAt.ext hX13 bO7_0).1, (BoxAt.ext hX13 bO7_1).1⟩, ?_⟩
        refine wd_step 48 hR rfl (by kernel_rfl) (by kernel_rfl) (by kernel_rfl) (sn_call (f := 24) (args := #[.agg #[.int .i64 200, .int .i64 0, .int .i64 0, .int .i64 20000, .int .i64 10000, .int .i64 0, .int .i64 1], .agg #[.int .i64 10, .int .i64 20], .int .i64 2, .agg #[.slice (some ⟨B387, 0, none⟩) 24 24]]) (by kernel_rfl) ((Shows_r (o := Swath.o0) (s := Swath.s0) (lk := 2) (r := false) _ _ (RowsAt.va hr389 (by kernel_rfl)).aa (Ext.refl _) (by kernel_rfl)).mono ?_))
        rintro e w394 ⟨rfl, hb⟩
        replace hE := hE.trans hb; replace hX13 := hX13.trans hb; replace hX26 := hX26.trans hb; replace hX39 := hX39.trans hb; replace hX52 := hX52.trans hb; replace hX72 := hX72.trans hb; replace hX147 := hX147.trans hb; replace hX222 := hX222.trans hb; replace hX225 := hX225.trans hb; replace hX234 := hX234.trans hb; replace hX276 := hX276.trans hb; replace hX363 := hX363.trans hb; replace bO370_0 := BoxAt.ext hb bO370_0; replace hr376 := hr376.ext hb; replace bO383_0 := BoxAt.ext hb bO383_0; replace hr389 := hr389.ext hb; have hs395 := hb.size; clear hb
        refine ⟨_, rfl, ⟨(BoxAt.ext hX147 bO88_0).1, (BoxAt.ext hX147 bO88_1).1, (BoxAt.ext hX13 bO1_0).1, (BoxAt.ext hX13 bO1_1).1, (BoxAt.ext hX13 bO1_2).1, (BoxAt.ext hX13 bO1_3).1, (BoxAt.ext hX13 bO1_4).1, (BoxAt.ext hX13 bO1_5).1, (BoxAt.ext hX13 bO1_6).1, (BoxAt.ext hX13 bO7_0).1, (BoxAt.ext hX13 bO7_1).1⟩, ?_⟩
        refine wd_take 49 (.bool true) hR rfl (by kernel_rfl) rfl (by kernel_rfl) (fun w _ => by kernel_rfl) (⟨(BoxAt.ext hX147 bO88_0).1, (BoxAt.ext hX147 bO88_1).1, (BoxAt.ext hX13 bO1_0).1, (BoxAt.ext hX13 bO1_1).1, (BoxAt.ext hX13 bO1_2).1, (BoxAt.ext hX13 bO1_3).1, (BoxAt.ext hX13 bO1_4).1, (BoxAt.ext hX13 bO1_5).1, (BoxAt.ext hX13 bO1_6).1, (BoxAt.ext hX13 bO7_0).1, (BoxAt.ext hX13 bO7_1).1⟩) ?_
        refine wd_take 50 (.bool true) hR rfl (by kernel_rfl) rfl (by kernel_rfl) (fun w _ => by kernel_rfl) (⟨(BoxAt.ext hX147 bO88_0).1, (BoxAt.ext hX147 bO88_1).1, (BoxAt.ext hX13 bO1_0).1, (BoxAt.ext hX13 bO1_1).1, (BoxAt.ext hX13 bO1_2).1, (BoxAt.ext hX13 bO1_3).1, (BoxAt.ext hX13 bO1_4).1, (BoxAt.ext hX13 bO1_5).1, (BoxAt.ext hX13 bO1_6).1, (BoxAt.ext hX13 bO7_0).1, (BoxAt.ext hX13 bO7_1).1⟩) ?_
        refine wd_take 51 (.bool true) hR rfl (by kernel_rfl) rfl (by kernel_rfl) (fun w _ => by kernel_rfl) (⟨(BoxAt.ext hX147 bO88_0).1, (BoxAt.ext hX147 bO88_1).1, (BoxAt.ext hX13 bO1_0).1, (BoxAt.ext hX13 bO1_1).1, (BoxAt.ext hX13 bO1_2).1, (BoxAt.ext hX13 bO1_3).1, (BoxAt.ext hX13 bO1_4).1, (BoxAt.ext hX13 bO1_5).1, (BoxAt.ext hX13 bO1_6).1, (BoxAt.ext hX13 bO7_0).1, (BoxAt.ext hX13 bO7_1).1⟩) ?_
        refine wd_end hL hR hK (by kernel_rfl) ?_
        refine qw_then ?_
        refine cw_clean [0] (ws' := [(0, .bool true)]) (by kernel_rfl) (fun L => ?_)
        refine cw_ret ?_
        refine qw_ret [.bool true] rfl ⟨(by kernel_rfl), trivial⟩ ?_
        exact ⟨rfl, hE⟩

end Go.Proofs.Ytdjjkhefdalokaa

/- The distance of two cells, and what is near an area. Plain mathematics. -/
namespace Go.Proofs.Ytdjjkhefdalokaa
namespace Globe

def circ (a b : Nat) : Nat := min (max (a - b) (b - a)) (48 - max (a - b) (b - a))
def nearN (x y x' y' : Nat) : Nat := max (max (y - y') (y' - y)) (circ x x')
theorem near_le {x y x' y' n : Nat} : nearN x y x' y' ≤ n ↔ y ≤ y' + n ∧ y' ≤ y + n ∧ circ x x' ≤ n := by unfold nearN; omega
theorem circ_one {x x' : Nat} (hx : x < 48) (hx' : x' < 48) : circ x x' ≤ 1 ↔ x' = x ∨ x' = (x + 47) % 48 ∨ x' = (x + 1) % 48 := by unfold circ; omega
theorem circ_mid {x x' n : Nat} (hx : x < 48) (hx' : x' < 48) (h : circ x x' ≤ n + 1) : ∃ z, z < 48 ∧ circ x z ≤ 1 ∧ circ z x' ≤ n := by
  by_cases e : x = x'
  · subst e; exact ⟨x, hx, by unfold circ; omega, by unfold circ; omega⟩
  · by_cases c : (x' + 48 - x) % 48 ≤ 24
    · exact ⟨(x + 1) % 48, by omega, by unfold circ; omega, by unfold circ at h ⊢; omega⟩
    · exact ⟨(x + 47) % 48, by omega, by unfold circ; omega, by unfold circ at h ⊢; omega⟩
theorem circ_tri {a b c : Nat} (ha : a < 48) (hb : b < 48) (hc : c < 48) : circ a c ≤ circ a b + circ b c := by unfold circ; omega
theorem near_tri {a b c d e f : Nat} (ha : a < 48) (hb : c < 48) (hc : e < 48) : nearN a b e f ≤ nearN a b c d + nearN c d e f := by
  have := circ_tri ha hb hc
  unfold nearN; omega
theorem near_mid {x y x' y' n : Nat} (hx : x < 48) (hx' : x' < 48) (hy : y < 24) (hy' : y' < 24) (h : nearN x y x' y' ≤ n + 1) : ∃ a b, a < 48 ∧ b < 24 ∧ nearN x y a b ≤ 1 ∧ nearN a b x' y' ≤ n := by
  rw [near_le] at h
  obtain ⟨z, hz, h1, h2⟩ := circ_mid hx hx' h.2.2
  by_cases e : y < y'
  · exact ⟨z, y + 1, hz, by omega, by rw [near_le]; omega, by rw [near_le]; omega⟩
  · by_cases e2 : y' < y
    · exact ⟨z, y - 1, hz, by omega, by rw [near_le]; omega, by rw [near_le]; omega⟩
    · exact ⟨z, y, hz, by omega, by rw [near_le]; omega, by rw [near_le]; omega⟩

theorem wide_bit {R x : Nat} (h : R < 281474976710656) (hx : x < 48) : (wideN R).testBit x = true ↔ ∃ x', x' < 48 ∧ circ x x' ≤ 1 ∧ R.testBit x' = true := by
  unfold wideN
  rw [Nat.testBit_or, Nat.testBit_or, rotN_bit h (by omega) hx, rotN_bit h (by omega) hx, Bool.or_eq_true, Bool.or_eq_true, show (x + 48 - 1) % 48 = (x + 47) % 48 by omega, show (x + 48 - 47) % 48 = (x + 1) % 48 by omega]
  constructor
  · rintro ((h | h) | h)
    · exact ⟨x, hx, by unfold circ; omega, h⟩
    · exact ⟨_, by omega, (circ_one hx (by omega)).2 (.inr (.inl rfl)), h⟩
    · exact ⟨_, by omega, (circ_one hx (by omega)).2 (.inr (.inr rfl)), h⟩
  · rintro ⟨x', hx', hc, h⟩
    rcases (circ_one hx hx').1 hc with rfl | rfl | rfl
    · exact .inl (.inl h)
    · exact .inl (.inr h)
    · exact .inr h
theorem or_bit (l : List Int) (z x : Nat) : ∀ k, (orN l z k).testBit x = true ↔ ∃ i, i < k ∧ (wideN (rowN l (z + i))).testBit x = true
  | 0 => by simp [orN]
  | k + 1 => by
    rw [orN, Nat.testBit_or, Bool.or_eq_true, or_bit l z x k]
    constructor
    · rintro (⟨i, hi, h⟩ | h)
      · exact ⟨i, by omega, h⟩
      · exact ⟨k, by omega, h⟩
    · rintro ⟨i, hi, h⟩
      by_cases e : i = k
      · subst e; exact .inr h
      · exact .inl ⟨i, by omega, h⟩
theorem has_grow1 {l : List Int} (hl : validL l = true) {x y : Nat} (hx : x < 48) (hy : y < 24) :
    hasL (grow1 l) x y = true ↔ ∃ x' y', x' < 48 ∧ y' < 24 ∧ nearN x y x' y' ≤ 1 ∧ hasL l x' y' = true := by
  unfold grow1
  rw [has_rowsF _ hy, Nat.testBit_or, Bool.or_eq_true, or_bit]
  constructor
  · rintro (h | ⟨i, hi, h⟩)
    · exact ⟨x, y, hx, hy, by rw [near_le]; unfold circ; omega, h⟩
    · obtain ⟨x', hx', hc, hb⟩ := (wide_bit (rowN_lt hl _) hx).1 h
      exact ⟨x', y - 1 + i, hx', by omega, by rw [near_le]; omega, hb⟩
  · rintro ⟨x', y', hx', hy', hn, h⟩
    rw [near_le] at hn
    refine .inr ⟨y' - (y - 1), by omega, ?_⟩
    rw [show y - 1 + (y' - (y - 1)) = y' by omega]
    exact (wide_bit (rowN_lt hl _) hx).2 ⟨x', hx', hn.2.2, h⟩
theorem has_grow {l : List Int} (hl : validL l = true) {x y : Nat} (hx : x < 48) (hy : y < 24) : ∀ n,
    hasL (growL l n) x y = true ↔ ∃ x' y', x' < 48 ∧ y' < 24 ∧ nearN x y x' y' ≤ n ∧ hasL l x' y' = true
  | 0 => by
    rw [growL]
    constructor
    · exact fun h => ⟨x, y, hx, hy, by rw [near_le]; unfold circ; omega, h⟩
    · rintro ⟨x', y', hx', hy', hn, h⟩
      rw [near_le] at hn
      obtain rfl : x = x' := by have := hn.2.2; unfold circ at this; omega
      obtain rfl : y = y' := by omega
      exact h
  | n + 1 => by
    rw [growL, has_grow1 (growL_valid hl n) hx hy]
    constructor
    · rintro ⟨x1, y1, hx1, hy1, hn, h⟩
      obtain ⟨x', y', hx', hy', hn', h'⟩ := (has_grow hl hx1 hy1 n).1 h
      exact ⟨x', y', hx', hy', by have := @near_tri x y x1 y1 x' y' hx hx1 hx'; omega, h'⟩
    · rintro ⟨x', y', hx', hy', hn, h⟩
      obtain ⟨a, b, ha, hb, h1, h2⟩ := near_mid hx hx' hy hy' hn
      exact ⟨a, b, ha, hb, h1, (has_grow hl ha hb n).2 ⟨x', y', hx', hy', h2, h⟩⟩

theorem ext_iff {a b : List Int} (ha : validL a = true) (hb : validL b = true) (h : ∀ x y, x < 48 → y < 24 → (hasL a x y = true ↔ hasL b x y = true)) : a = b :=
  ext_has ha hb fun x y hx hy => by rw [Bool.eq_iff_iff]; exact h x y hx hy
theorem grow_union {a b : List Int} (ha : validL a = true) (hb : validL b = true) (n : Nat) : growL (unionL a b) n = unionL (growL a n) (growL b n) := by
  refine ext_iff (growL_valid (union_valid ha hb) n) (union_valid (growL_valid ha n) (growL_valid hb n)) fun x y hx hy => ?_
  rw [has_union hy, Bool.or_eq_true, has_grow (union_valid ha hb) hx hy, has_grow ha hx hy, has_grow hb hx hy]
  constructor
  · rintro ⟨x', y', hx', hy', hn, h⟩
    rw [has_union hy', Bool.or_eq_true] at h
    exact h.elim (fun h => .inl ⟨x', y', hx', hy', hn, h⟩) fun h => .inr ⟨x', y', hx', hy', hn, h⟩
  · rintro (⟨x', y', hx', hy', hn, h⟩ | ⟨x', y', hx', hy', hn, h⟩)
    · exact ⟨x', y', hx', hy', hn, by rw [has_union hy', h]; rfl⟩
    · exact ⟨x', y', hx', hy', hn, by rw [has_union hy', h, Bool.or_true]⟩
theorem grow_has {a : List Int} (ha : validL a = true) (n : Nat) {x y : Nat} (hx : x < 48) (hy : y < 24) (h : hasL a x y = true) : hasL (growL a n) x y = true :=
  (has_grow ha hx hy n).2 ⟨x, y, hx, hy, by rw [near_le]; unfold circ; omega, h⟩
theorem circ_shift {x x' k : Nat} (hx : x < 48) (hx' : x' < 48) (_hk : k < 48) : circ ((x + k) % 48) ((x' + k) % 48) = circ x x' := by unfold circ; omega
theorem circ_back {x x' k : Nat} (hx : x < 48) (hx' : x' < 48) (hk : k < 48) : circ ((x + 48 - k) % 48) ((x' + 48 - k) % 48) = circ x x' := by unfold circ; omega
theorem grow_shift {a : List Int} (ha : validL a = true) {k : Nat} (hk : k < 48) (n : Nat) : growL (shiftL a k) n = shiftL (growL a n) k := by
  refine ext_iff (growL_valid (shift_valid a k) n) (shift_valid _ k) fun x y hx hy => ?_
  rw [has_shift (growL_valid ha n) hk hx hy, has_grow (shift_valid a k) hx hy, has_grow ha (by omega) hy]
  constructor
  · rintro ⟨x', y', hx', hy', hn, h⟩
    rw [has_shift ha hk hx' hy'] at h
    refine ⟨_, y', by omega, hy', ?_, h⟩
    rw [near_le] at hn ⊢
    rw [circ_back hx hx' hk]; exact hn
  · rintro ⟨x', y', hx', hy', hn, h⟩
    refine ⟨(x' + k) % 48, y', by omega, hy', ?_, ?_⟩
    · rw [near_le] at hn ⊢
      refine ⟨hn.1, hn.2.1, ?_⟩
      have := hn.2.2
      rw [← circ_shift (x := (x + 48 - k) % 48) (x' := x') (k := k) (by omega) hx' hk, show ((x + 48 - k) % 48 + k) % 48 = x by omega] at this
      exact this
    · rw [has_shift ha hk (by omega) hy', show ((x' + k) % 48 + 48 - k) % 48 = x' by omega]; exact h
theorem shift_meet {a b : List Int} (ha : validL a = true) (hb : validL b = true) {k : Nat} (hk : k < 48) : shiftL (meetL a b) k = meetL (shiftL a k) (shiftL b k) := by
  refine ext_has (shift_valid _ k) (meet_valid (shift_valid a k)) fun x y hx hy => ?_
  rw [has_shift (meet_valid ha) hk hx hy, has_meet hy, has_meet hy, has_shift ha hk hx hy, has_shift hb hk hx hy]
theorem shift_union {a b : List Int} (ha : validL a = true) (hb : validL b = true) {k : Nat} (hk : k < 48) : shiftL (unionL a b) k = unionL (shiftL a k) (shiftL b k) := by
  refine ext_has (shift_valid _ k) (union_valid (shift_valid a k) (shift_valid b k)) fun x y hx hy => ?_
  rw [has_shift (union_valid ha hb) hk hx hy, has_union hy, has_union hy, has_shift ha hk hx hy, has_shift hb hk hx hy]
theorem shift_less {a b : List Int} (ha : validL a = true) (hb : validL b = true) {k : Nat} (hk : k < 48) : shiftL (lessL a b) k = lessL (shiftL a k) (shiftL b k) := by
  refine ext_has (shift_valid _ k) (less_valid (shift_valid a k)) fun x y hx hy => ?_
  rw [has_shift (less_valid ha) hk hx hy, has_less hy, has_less hy, has_shift ha hk hx hy, has_shift hb hk hx hy]
theorem shift_shift {a : List Int} (ha : validL a = true) {i k m : Nat} (hi : i < 48) (hk : k < 48) (hm : m = (i + k) % 48) : shiftL (shiftL a i) k = shiftL a m := by
  subst hm
  refine ext_has (shift_valid _ _) (shift_valid _ _) fun x y hx hy => ?_
  rw [has_shift (shift_valid a i) hk hx hy, has_shift ha hi (by omega) hy, has_shift ha (by omega) hx hy]
  congr 1
  omega

end Globe
end Go.Proofs.Ytdjjkhefdalokaa

/- What exposures show: longer ones, other looks, less slack, all delays. -/
namespace Go.Proofs.Ytdjjkhefdalokaa
namespace Swath
open Globe
theorem has_show {o : Orb} (h : Orb.ok o = true) (lk u : Int) {x y : Nat} : ∀ n, (hasL (showL o lk u n) x y = true ↔ ∃ i : Nat, i < n ∧ x = sx o lk (u + i) ∧ y = Orb.cy o (u + i))
  | 0 => by
    rw [show showL o lk u 0 = zeroL from rfl, has_zero]
    simp
  | n + 1 => by
    rw [show showL o lk u (n + 1) = putL (showL o lk u n) (sx o lk (u + n)) (Orb.cy o (u + n)) from rfl, has_put (by rw [len_of_valid (show_valid h lk u n)]; exact Orb.cy_lt h _)]
    rw [Bool.or_eq_true, has_show h lk u n, Bool.and_eq_true, decide_eq_true_eq, decide_eq_true_eq]
    constructor
    · rintro (⟨i, hi, hx, hy⟩ | ⟨hx, hy⟩)
      · exact ⟨i, by omega, hx, hy⟩
      · exact ⟨n, by omega, hx.symm, hy.symm⟩
    · rintro ⟨i, hi, hx, hy⟩
      rcases Nat.lt_or_ge i n with q | q
      · exact .inl ⟨i, q, hx, hy⟩
      · obtain rfl : i = n := by omega
        exact .inr ⟨hx.symm, hy.symm⟩
theorem has_foldU {A : Nat → List Int} {x y : Nat} (hy : y < 24) : ∀ k, (hasL (foldU A k) x y = true ↔ ∃ j, j < k ∧ hasL (A j) x y = true)
  | 0 => by rw [show foldU A 0 = zeroL from rfl, has_zero]; simp
  | 1 => by
    rw [show foldU A 1 = A 0 from rfl]
    refine ⟨fun h => ⟨0, by omega, h⟩, fun ⟨j, hj, h⟩ => ?_⟩
    obtain rfl : j = 0 := by omega
    exact h
  | k + 2 => by
    rw [show foldU A (k + 2) = unionL (foldU A (k + 1)) (A (k + 1)) from rfl, has_union hy, Bool.or_eq_true, has_foldU hy (k + 1)]
    constructor
    · rintro (⟨j, hj, h⟩ | h)
      · exact ⟨j, by omega, h⟩
      · exact ⟨k + 1, by omega, h⟩
    · rintro ⟨j, hj, h⟩
      rcases Nat.lt_or_ge j (k + 1) with q | q
      · exact .inl ⟨j, q, h⟩
      · obtain rfl : j = k + 1 := by omega
        exact .inr h
theorem has_foldM {A : Nat → List Int} {x y : Nat} (hy : y < 24) : ∀ k, (hasL (foldM A (k + 1)) x y = true ↔ ∀ j, j < k + 1 → hasL (A j) x y = true)
  | 0 => by
    rw [show foldM A (0 + 1) = A 0 from rfl]
    refine ⟨fun h j hj => ?_, fun h => h 0 (by omega)⟩
    obtain rfl : j = 0 := by omega
    exact h
  | k + 1 => by
    rw [show foldM A (k + 1 + 1) = meetL (foldM A (k + 1)) (A (k + 1)) from rfl, has_meet hy, Bool.and_eq_true, has_foldM hy k]
    constructor
    · rintro ⟨h1, h2⟩ j hj
      rcases Nat.lt_or_ge j (k + 1) with q | q
      · exact h1 j q
      · obtain rfl : j = k + 1 := by omega
        exact h2
    · intro h
      exact ⟨fun j hj => h j (by omega), h (k + 1) (by omega)⟩
theorem lates_pos {o : Orb} (h : Orb.ok o = true) : 0 < lates o := by have := Orb.ok_t.1 h; unfold lates; omega
theorem has_can {o : Orb} {s : Int × Int} {lk : Int} {x y : Nat} (hy : y < 24) : hasL (canL o s lk) x y = true ↔ ∃ j, j < lates o ∧ hasL (areaJ o s lk j) x y = true := has_foldU hy _
theorem has_sure {o : Orb} (h : Orb.ok o = true) {s : Int × Int} {lk : Int} {x y : Nat} (hy : y < 24) : hasL (sureL o s lk) x y = true ↔ ∀ j, j < lates o → hasL (areaJ o s lk j) x y = true := by
  have := lates_pos h
  unfold sureL
  obtain ⟨k, hk⟩ : ∃ k, lates o = k + 1 := ⟨lates o - 1, by omega⟩
  rw [hk]; exact has_foldM hy k
/-- Two exposures, one after the other. -/
theorem has_parts {o : Orb} (h : Orb.ok o = true) {f k t lk : Int} (hf : f ≤ k) (hk : k ≤ t) {x y : Nat} (j : Nat) : hasL (areaJ o (f, t) lk j) x y = true ↔ hasL (areaJ o (f, k) lk j) x y = true ∨ hasL (areaJ o (k, t) lk j) x y = true := by
  unfold areaJ
  simp only []
  rw [has_show h, has_show h, has_show h]
  constructor
  · rintro ⟨i, hi, hx, hy⟩
    rcases Nat.lt_or_ge i (k - f).toNat with q | q
    · exact .inl ⟨i, q, hx, hy⟩
    · refine .inr ⟨i - (k - f).toNat, by omega, ?_, ?_⟩
      · rw [hx]; congr 1; omega
      · rw [hy]; congr 1; omega
  · rintro (⟨i, hi, hx, hy⟩ | ⟨i, hi, hx, hy⟩)
    · exact ⟨i, by omega, hx, hy⟩
    · refine ⟨i + (k - f).toNat, by omega, ?_, ?_⟩
      · rw [hx]; congr 1; omega
      · rw [hy]; congr 1; omega
theorem longer_can {o : Orb} (h : Orb.ok o = true) {f k t lk : Int} (hf : f ≤ k) (hk : k ≤ t) : unionL (canL o (f, k) lk) (canL o (k, t) lk) = canL o (f, t) lk :=
  ext_iff (union_valid (can_valid h _ _) (can_valid h _ _)) (can_valid h _ _) fun x y _ hy => by
    rw [has_union hy, Bool.or_eq_true, has_can hy, has_can hy, has_can hy]
    constructor
    · rintro (⟨j, hj, h1⟩ | ⟨j, hj, h1⟩)
      · exact ⟨j, hj, (has_parts h hf hk j).2 (.inl h1)⟩
      · exact ⟨j, hj, (has_parts h hf hk j).2 (.inr h1)⟩
    · rintro ⟨j, hj, h1⟩
      rcases (has_parts h hf hk j).1 h1 with q | q
      · exact .inl ⟨j, hj, q⟩
      · exact .inr ⟨j, hj, q⟩
theorem longer_a {o : Orb} (h : Orb.ok o = true) {f k t lk : Int} (hf : f ≤ k) (hk : k ≤ t) : containsB (sureL o (f, t) lk) (sureL o (f, k) lk) = true :=
  (contains_iff (sure_valid h _ _) (sure_valid h _ _)).2 fun _ _ _ hy h1 => (has_sure h hy).2 fun j hj => (has_parts h hf hk j).2 (.inl ((has_sure h hy).1 h1 j hj))
theorem longer_b {o : Orb} (h : Orb.ok o = true) {f k t lk : Int} (hf : f ≤ k) (hk : k ≤ t) : containsB (sureL o (f, t) lk) (sureL o (k, t) lk) = true :=
  (contains_iff (sure_valid h _ _) (sure_valid h _ _)).2 fun _ _ _ hy h1 => (has_sure h hy).2 fun j hj => (has_parts h hf hk j).2 (.inr ((has_sure h hy).1 h1 j hj))
/-- One column farther to the east. -/
theorem sx_next (o : Orb) (lk u : Int) : sx o (lk + 1) u = (sx o lk u + 1) % 48 := by unfold sx; omega
theorem has_east {o : Orb} (h : Orb.ok o = true) {s : Int × Int} {lk : Int} (j : Nat) {x y : Nat} (hx : x < 48) : hasL (areaJ o s (lk + 1) j) x y = true ↔ hasL (areaJ o s lk j) ((x + 48 - 1) % 48) y = true := by
  unfold areaJ
  rw [has_show h, has_show h]
  constructor
  · rintro ⟨i, hi, h1, h2⟩
    rw [sx_next] at h1
    have := sx_lt o lk (s.1 - (-o.sl + ((j : Nat) : Int)) + ((i : Nat) : Int))
    exact ⟨i, hi, by omega, h2⟩
  · rintro ⟨i, hi, h1, h2⟩
    have := sx_lt o lk (s.1 - (-o.sl + ((j : Nat) : Int)) + ((i : Nat) : Int))
    exact ⟨i, hi, by rw [sx_next]; omega, h2⟩
theorem looks_can {o : Orb} (h : Orb.ok o = true) (s : Int × Int) (lk : Int) : canL o s (lk + 1) = shiftL (canL o s lk) 1 :=
  ext_iff (can_valid h _ _) (shift_valid _ _) fun x y hx hy => by
    rw [has_shift (can_valid h _ _) (by omega) hx hy, has_can hy, has_can hy]
    exact ⟨fun ⟨j, hj, h1⟩ => ⟨j, hj, (has_east h j hx).1 h1⟩, fun ⟨j, hj, h1⟩ => ⟨j, hj, (has_east h j hx).2 h1⟩⟩
theorem looks_sure {o : Orb} (h : Orb.ok o = true) (s : Int × Int) (lk : Int) : sureL o s (lk + 1) = shiftL (sureL o s lk) 1 :=
  ext_iff (sure_valid h _ _) (shift_valid _ _) fun x y hx hy => by
    rw [has_shift (sure_valid h _ _) (by omega) hx hy, has_sure h hy, has_sure h hy]
    exact ⟨fun h1 j hj => (has_east h j hx).1 (h1 j hj), fun h1 j hj => (has_east h j hx).2 (h1 j hj)⟩
/-- Less slack. -/
def slack (o : Orb) (m : Int) : Orb := ⟨o.p, o.f, o.lo, o.hi, o.nd, o.tn, m⟩
theorem slack_ok {o : Orb} (h : Orb.ok o = true) {m : Int} (h0 : 0 ≤ m) (h1 : m ≤ o.sl) : Orb.ok (slack o m) = true := by
  have := Orb.ok_t.1 h
  refine Orb.ok_t.2 ?_
  unfold slack
  simp only []
  exact ⟨this.1, this.2.1, this.2.2.1, this.2.2.2.1, this.2.2.2.2.1, this.2.2.2.2.2.1, this.2.2.2.2.2.2.1, by omega, by omega⟩
theorem slack_area (o : Orb) (s : Int × Int) (lk m : Int) (h1 : m ≤ o.sl) (j : Nat) : areaJ (slack o m) s lk j = areaJ o s lk (j + (o.sl - m).toNat) := by
  unfold areaJ
  have hs : ∀ u n, showL (slack o m) lk u n = showL o lk u n := fun u n => by
    induction n with
    | zero => rfl
    | succ n ih =>
      show putL (showL (slack o m) lk u n) _ _ = putL (showL o lk u n) _ _
      rw [ih]; rfl
  rw [hs]
  congr 1
  show s.1 - (-m + ((j : Nat) : Int)) = _
  omega
theorem slack_lates (o : Orb) {m : Int} (h0 : 0 ≤ m) (h1 : m ≤ o.sl) {j : Nat} (hj : j < lates (slack o m)) : j + (o.sl - m).toNat < lates o := by
  unfold lates at *
  unfold slack at hj
  simp only [] at hj
  omega
theorem slack_sure {o : Orb} (h : Orb.ok o = true) (s : Int × Int) (lk : Int) {m : Int} (h0 : 0 ≤ m) (h1 : m ≤ o.sl) : containsB (sureL (slack o m) s lk) (sureL o s lk) = true :=
  (contains_iff (sure_valid (slack_ok h h0 h1) _ _) (sure_valid h _ _)).2 fun _ _ _ hy h2 => (has_sure (slack_ok h h0 h1) hy).2 fun j hj => by
    rw [slack_area o s lk m h1]
    exact (has_sure h hy).1 h2 _ (slack_lates o h0 h1 hj)
theorem slack_can {o : Orb} (h : Orb.ok o = true) (s : Int × Int) (lk : Int) {m : Int} (h0 : 0 ≤ m) (h1 : m ≤ o.sl) : containsB (canL o s lk) (canL (slack o m) s lk) = true :=
  (contains_iff (can_valid h _ _) (can_valid (slack_ok h h0 h1) _ _)).2 fun _ _ _ hy h2 => (has_can hy).2 <| by
    obtain ⟨j, hj, h3⟩ := (has_can hy).1 h2
    rw [slack_area o s lk m h1] at h3
    exact ⟨_, slack_lates o h0 h1 hj, h3⟩
theorem slack_none (o : Orb) (s : Int × Int) (lk : Int) (h : o.sl = 0) : sureL o s lk = canL o s lk := by
  unfold sureL canL
  rw [show lates o = 1 by unfold lates; rw [h]; rfl]
  rfl
/-- All delays. -/
theorem sure_in {o : Orb} (h : Orb.ok o = true) (s : Int × Int) (lk : Int) {j : Nat} (hj : j < lates o) : containsB (areaJ o s lk j) (sureL o s lk) = true :=
  (contains_iff (areaJ_valid h s lk j) (sure_valid h _ _)).2 fun _ _ _ hy h2 => (has_sure h hy).1 h2 j hj
theorem can_has {o : Orb} (h : Orb.ok o = true) (s : Int × Int) (lk : Int) {j : Nat} (hj : j < lates o) : containsB (canL o s lk) (areaJ o s lk j) = true :=
  (contains_iff (can_valid h _ _) (areaJ_valid h s lk j)).2 fun _ _ _ hy h2 => (has_can hy).2 ⟨j, hj, h2⟩
theorem can_sure {o : Orb} (h : Orb.ok o = true) (s : Int × Int) (lk : Int) : containsB (canL o s lk) (sureL o s lk) = true :=
  (contains_iff (can_valid h _ _) (sure_valid h _ _)).2 fun _ _ _ hy h2 => (has_can hy).2 ⟨0, lates_pos h, (has_sure h hy).1 h2 0 (lates_pos h)⟩
theorem union_next {A : Nat → List Int} (hA : ∀ i, validL (A i) = true) : ∀ i, unionL (foldU A i) (A i) = foldU A (i + 1)
  | 0 => ext_has (union_valid (foldU_valid hA 0) (hA 0)) (hA 0) fun x y _ hy => by
    rw [has_union hy, show foldU A 0 = zeroL from rfl, has_zero, Bool.false_or, show foldU A (0 + 1) = A 0 from rfl]
  | i + 1 => rfl
/-- The heights: bounds that are reached. -/
theorem mm_bd (o : Orb) (s : Int × Int) (lk d : Int) : ∀ n i, i < n → (mm o s lk d n).1 ≤ hgt o s lk d i ∧ hgt o s lk d i ≤ (mm o s lk d n).2
  | n + 1, i, hi => by
    rw [show mm o s lk d (n + 1) = (min (mm o s lk d n).1 (hgt o s lk d n), max (mm o s lk d n).2 (hgt o s lk d n)) from rfl]
    simp only []
    rcases Nat.lt_or_ge i n with q | q
    · have := mm_bd o s lk d n i q; omega
    · obtain rfl : i = n := by omega
      omega
theorem mm_hit (o : Orb) (s : Int × Int) (lk d : Int) (hh : ∀ i, -90 ≤ hgt o s lk d i ∧ hgt o s lk d i ≤ 90) : ∀ n, 0 < n → (∃ i, i < n ∧ hgt o s lk d i = (mm o s lk d n).1) ∧ ∃ i, i < n ∧ hgt o s lk d i = (mm o s lk d n).2
  | 1, _ => by
    have := hh 0
    refine ⟨⟨0, by omega, ?_⟩, 0, by omega, ?_⟩
    · show _ = min 90 (hgt o s lk d 0); omega
    · show _ = max (-90) (hgt o s lk d 0); omega
  | n + 2, _ => by
    obtain ⟨⟨i, hi, h1⟩, k, hk, h2⟩ := mm_hit o s lk d hh (n + 1) (by omega)
    rw [show mm o s lk d (n + 2) = (min (mm o s lk d (n + 1)).1 (hgt o s lk d (n + 1)), max (mm o s lk d (n + 1)).2 (hgt o s lk d (n + 1))) from rfl]
    simp only []
    constructor
    · rcases Int.le_total (mm o s lk d (n + 1)).1 (hgt o s lk d (n + 1)) with q | q
      · exact ⟨i, by omega, by omega⟩
      · exact ⟨n + 1, by omega, by omega⟩
    · rcases Int.le_total (mm o s lk d (n + 1)).2 (hgt o s lk d (n + 1)) with q | q
      · exact ⟨n + 1, by omega, by omega⟩
      · exact ⟨k, by omega, by omega⟩
theorem sunF_bd {A : Nat → Int × Int} : ∀ n j, j < n → (sunF A n).1 ≤ (A j).1 ∧ (A j).2 ≤ (sunF A n).2
  | 1, j, hj => by
    obtain rfl : j = 0 := by omega
    exact ⟨Int.le_refl _, Int.le_refl _⟩
  | n + 2, j, hj => by
    rw [show sunF A (n + 2) = (min (sunF A (n + 1)).1 (A (n + 1)).1, max (sunF A (n + 1)).2 (A (n + 1)).2) from rfl]
    simp only []
    rcases Nat.lt_or_ge j (n + 1) with q | q
    · have := sunF_bd (A := A) (n + 1) j q; omega
    · obtain rfl : j = n + 1 := by omega
      omega
theorem sunF_hit {A : Nat → Int × Int} : ∀ n, 0 < n → (∃ j, j < n ∧ (A j).1 = (sunF A n).1) ∧ ∃ j, j < n ∧ (A j).2 = (sunF A n).2
  | 1, _ => ⟨⟨0, by omega, rfl⟩, 0, by omega, rfl⟩
  | n + 2, _ => by
    obtain ⟨⟨i, hi, h1⟩, k, hk, h2⟩ := sunF_hit (A := A) (n + 1) (by omega)
    rw [show sunF A (n + 2) = (min (sunF A (n + 1)).1 (A (n + 1)).1, max (sunF A (n + 1)).2 (A (n + 1)).2) from rfl]
    simp only []
    constructor
    · rcases Int.le_total (sunF A (n + 1)).1 (A (n + 1)).1 with q | q
      · exact ⟨i, by omega, by omega⟩
      · exact ⟨n + 1, by omega, by omega⟩
    · rcases Int.le_total (sunF A (n + 1)).2 (A (n + 1)).2 with q | q
      · exact ⟨n + 1, by omega, by omega⟩
      · exact ⟨k, by omega, by omega⟩
theorem hgt_bd {o : Orb} (h : Orb.ok o = true) {s : Int × Int} (hs : 0 ≤ s.1) (lk d : Int) (i : Nat) : -90 ≤ hgt o s lk d i ∧ hgt o s lk d i ≤ 90 := by
  have h1 := sx_lt o lk (s.1 + ((i : Nat) : Int) - d)
  have h2 := Orb.cy_lt h (s.1 + ((i : Nat) : Int) - d)
  exact Sun.height_bd (by omega) (by omega) (by omega) (by omega) (by omega)
def hgtJ (o : Orb) (s : Int × Int) (lk : Int) (j i : Nat) : Int := hgt o s lk (-o.sl + ((j : Nat) : Int)) i
def mins (s : Int × Int) : Nat := (s.2 - s.1).toNat
theorem suns_bd (o : Orb) (s : Int × Int) (lk : Int) {j i : Nat} (hj : j < lates o) (hi : i < mins s) : (suns o s lk).1 ≤ hgtJ o s lk j i ∧ hgtJ o s lk j i ≤ (suns o s lk).2 := by
  have h1 := sunF_bd (A := sunJ o s lk) (lates o) j hj
  have h2 := mm_bd o s lk (-o.sl + ((j : Nat) : Int)) (mins s) i hi
  unfold suns hgtJ
  have h3 : sunJ o s lk j = mm o s lk (-o.sl + ((j : Nat) : Int)) (mins s) := rfl
  rw [h3] at h1
  omega
/-- Has P a number below n? -/
def anyN (P : Nat → Bool) : Nat → Bool
  | 0 => false
  | n + 1 => anyN P n || P n
theorem any_succ (P : Nat → Bool) (n : Nat) : anyN P (n + 1) = (anyN P n || P n) := rfl
theorem any_hit {P : Nat → Bool} {i : Nat} : ∀ {n}, i < n → P i = true → anyN P n = true
  | n + 1, h, hp => by
    rw [any_succ]
    rcases Nat.lt_or_ge i n with q | q
    · rw [any_hit q hp]; rfl
    · obtain rfl : i = n := by omega
      rw [hp, Bool.or_true]
def lowQ (o : Orb) (s : Int × Int) (lk : Int) (j i : Nat) : Bool := decide (hgtJ o s lk j i = (suns o s lk).1)
def topQ (o : Orb) (s : Int × Int) (lk : Int) (j i : Nat) : Bool := decide (hgtJ o s lk j i = (suns o s lk).2)
section
variable {o : Orb} {s : Int × Int} {lk : Int} (hh : ∀ d i, -90 ≤ hgt o s lk d i ∧ hgt o s lk d i ≤ 90) (h0 : 0 < lates o) (h1 : 0 < mins s)
include hh h0 h1
theorem low_hit : anyN (fun j => anyN (lowQ o s lk j) (mins s)) (lates o) = true := by
  obtain ⟨⟨j, hj, h2⟩, _⟩ := sunF_hit (A := sunJ o s lk) (lates o) h0
  obtain ⟨⟨i, hi, h3⟩, _⟩ := mm_hit o s lk (-o.sl + ((j : Nat) : Int)) (hh _) (mins s) h1
  exact any_hit hj (any_hit hi (decide_eq_true (h3.trans h2)))
theorem top_hit : anyN (fun j => anyN (topQ o s lk j) (mins s)) (lates o) = true := by
  obtain ⟨_, j, hj, h2⟩ := sunF_hit (A := sunJ o s lk) (lates o) h0
  obtain ⟨_, i, hi, h3⟩ := mm_hit o s lk (-o.sl + ((j : Nat) : Int)) (hh _) (mins s) h1
  exact any_hit hj (any_hit hi (decide_eq_true (h3.trans h2)))
end
end Swath
end Go.Proofs.Ytdjjkhefdalokaa

/- Contracts of package globe: Same. -/
namespace Go.Proofs.Ytdjjkhefdalokaa
open Go.RowKit

theorem ne_of_at {l1 l2 : List Int} {k : Nat} (h : Globe.nth l1 k ≠ Globe.nth l2 k) : decide (l1 = l2) = false := by
  rw [decide_eq_false_iff_not]; intro e; exact h (by rw [e])
/-- Two lists of ints in memory, compared. -/
theorem slicesEqual_c (a1 : Option Addr) (l1 : List Int) (n1 c1 : Nat) (a2 : Option Addr) (l2 : List Int) (n2 c2 : Nat) (w : World) (h1 : IntsAt w a1 l1) (hn1 : l1.length = n1) (hl1 : n1 ≤ 140737488355328) (h2 : IntsAt w a2 l2) (hn2 : l2.length = n2) (hl2 : n2 ≤ 140737488355328) :
    Calls Try.prog 79 #[.slice a1 n1 c1, .slice a2 n2 c2] w fun e w' => e = .returned (.bool (decide (l1 = l2))) ∧ Ext w w' := by
  by_cases hne : n1 = n2
  · subst hne
    rcases Nat.eq_zero_or_pos n1 with h0 | h0
    · subst h0
      obtain rfl := List.length_eq_zero_iff.1 hn1
      obtain rfl := List.length_eq_zero_iff.1 hn2
      clear h1 h2 hn1 hn2 hl1 hl2
      go_enter Try.func79, Try.ntmps79
      go_wp2_with fail
      refine wp_loop_rounds 1 ?_
      rw [rounds_succ]
      go_wp2_with fail
      go_ret
      exact ⟨rfl, by (repeat' (first | (with_reducible assumption) | (with_reducible exact Ext.refl _) | (with_reducible refine Ext.alloc ?_ _) | (with_reducible refine Ext.drew ?_) | (with_reducible refine Ext.drewN ?_ _) | (with_reducible refine Ext.setCell ?_ ?_ _) | (with_reducible refine Ext.trans ?_ (by assumption)) | go_size))⟩
    · have e1 : ∃ b off, a1 = some ⟨b, off, none⟩ ∧ ∀ i, i < n1 → w.cell? ⟨b, off + i, none⟩ = some (.int .i64 (Globe.nth l1 i)) := by
        rcases h1 with rfl | ⟨b, off, rfl, h⟩
        · simp at hn1; omega
        · exact ⟨b, off, rfl, fun i hi => h i (by omega)⟩
      have e2 : ∃ b off, a2 = some ⟨b, off, none⟩ ∧ ∀ i, i < n1 → w.cell? ⟨b, off + i, none⟩ = some (.int .i64 (Globe.nth l2 i)) := by
        rcases h2 with rfl | ⟨b, off, rfl, h⟩
        · simp at hn2; omega
        · exact ⟨b, off, rfl, fun i hi => h i (by omega)⟩
      obtain ⟨b1, o1, rfl, r1⟩ := e1
      obtain ⟨b2, o2, rfl, r2⟩ := e2
      have R1 := Lib.hid r1; clear r1
      have R2 := Lib.hid r2; clear r2
      have Hn1 := Lib.hid hn1; clear hn1
      have Hn2 := Lib.hid hn2; clear hn2
      clear h1 h2 hl2
      go_enter Try.func79, Try.ntmps79
      go_wp2_with fail
      go_loopw [13] (fun p wr => ∃ k : Nat, k ≤ n1 ∧ p = .int .i64 k ∧ Hid (∀ j, j < k → Globe.nth l1 j = Globe.nth l2 j) ∧ Ext w wr) (fun p _ => n1 - (intOf p).toNat)
      case atStart => exact ⟨0, by omega, rfl, fun j hj => by omega, by (repeat' (first | (with_reducible assumption) | (with_reducible exact Ext.refl _) | (with_reducible refine Ext.alloc ?_ _) | (with_reducible refine Ext.drew ?_) | (with_reducible refine Ext.drewN ?_ _) | (with_reducible refine Ext.setCell ?_ ?_ _) | (with_reducible refine Ext.trans ?_ (by assumption)) | go_size))⟩
      case round =>
        obtain ⟨k, hk, rfl, Hp, hE⟩ := hrel
        by_cases hlt : k < n1
        · have d1 : wr.cell? ⟨b1, o1 + k, none⟩ = some (.int .i64 (Globe.nth l1 k)) := hE.cell (R1.out k hlt)
          have d2 : wr.cell? ⟨b2, o2 + k, none⟩ = some (.int .i64 (Globe.nth l2 k)) := hE.cell (R2.out k hlt)
          have k0 : (0 : Int) ≤ (k : Int) := by omega
          have k1 : (k : Int) < (n1 : Int) := by omega
          generalize hx : Globe.nth l1 k = x at *
          generalize hy : Globe.nth l2 k = y at *
          have Hx := Lib.hid hx; clear hx
          have Hy := Lib.hid hy; clear hy
          by_cases hxy : x = y
          · subst hxy
            go_wp2_with fail
            go_quiet (fail)
            go_wp2_with fail
            go_roundw
            case rel => exact ⟨k + 1, by omega, by go_num, fun j hj => by
              rcases Nat.lt_or_ge j k with h | h
              · exact Hp.out j h
              · rw [show j = k by omega, Hx.out, Hy.out], by (repeat' (first | (with_reducible assumption) | (with_reducible exact Ext.refl _) | (with_reducible refine Ext.alloc ?_ _) | (with_reducible refine Ext.drew ?_) | (with_reducible refine Ext.drewN ?_ _) | (with_reducible refine Ext.setCell ?_ ?_ _) | (with_reducible refine Ext.trans ?_ (by assumption)) | go_size))⟩
            case measure => simp [intOf]; omega
          · go_wp2_with fail
            go_quiet (fail)
            go_wp2_with fail
            go_ret
            exact ⟨ret_bool (ne_of_at (k := k) (by rw [Hx.out, Hy.out]; exact hxy)).symm, by (repeat' (first | (with_reducible assumption) | (with_reducible exact Ext.refl _) | (with_reducible refine Ext.alloc ?_ _) | (with_reducible refine Ext.drew ?_) | (with_reducible refine Ext.drewN ?_ _) | (with_reducible refine Ext.setCell ?_ ?_ _) | (with_reducible refine Ext.trans ?_ (by assumption)) | go_size))⟩
        · obtain rfl : k = n1 := by omega
          go_wp2_with fail
          go_ret
          exact ⟨ret_bool (by rw [eq_comm, decide_eq_true_eq]; exact Globe.ext_nth (by rw [Hn1.out, Hn2.out]) fun j hj => Hp.out j (by rw [← Hn1.out]; exact hj)), by (repeat' (first | (with_reducible assumption) | (with_reducible exact Ext.refl _) | (with_reducible refine Ext.alloc ?_ _) | (with_reducible refine Ext.drew ?_) | (with_reducible refine Ext.drewN ?_ _) | (with_reducible refine Ext.setCell ?_ ?_ _) | (with_reducible refine Ext.trans ?_ (by assumption)) | go_size))⟩
  · have hd : decide (l1 = l2) = false := by
      rw [decide_eq_false_iff_not]; intro e; subst e; exact hne (by omega)
    have hni : ¬ (n1 : Int) = (n2 : Int) := by omega
    have Hd := Lib.hid hd; clear hd
    clear h1 h2 hn1 hn2
    go_enter Try.func79, Try.ntmps79
    go_wp2_with fail
    go_ret
    exact ⟨ret_bool (by rw [Hd.out]), by (repeat' (first | (with_reducible assumption) | (with_reducible exact Ext.refl _) | (with_reducible refine Ext.alloc ?_ _) | (with_reducible refine Ext.drew ?_) | (with_reducible refine Ext.drewN ?_ _) | (with_reducible refine Ext.setCell ?_ ?_ _) | (with_reducible refine Ext.trans ?_ (by assumption)) | go_size))⟩

theorem Same_c {w1 w2 : World} {a1 : Option Addr} {l1 : List Int} {n1 : Nat} (c1 : Nat) {v1 : Bool} {a2 : Option Addr} {l2 : List Int} {n2 : Nat} (c2 : Nat) {v2 : Bool} (w : World) (h1 : AA w1 a1 l1 n1 v1) (e1 : Ext w1 w) (h2 : AA w2 a2 l2 n2 v2) (e2 : Ext w2 w) :
    Calls Try.prog 36 #[.agg #[.slice a1 n1 c1], .agg #[.slice a2 n2 c2]] w fun e w' => e = .returned (.bool (decide (l1 = l2))) ∧ Ext w w' := by
  have H1 := Lib.hid (h1.ext e1)
  have H2 := Lib.hid (h2.ext e2)
  clear h1 h2 e1 e2
  go_enter Try.func36, Try.ntmps36
  go_wp2_with (go_at_call 79; refine (slicesEqual_c _ l1 _ _ _ l2 _ _ _ (H1.out.1.ext (by (repeat' (first | (with_reducible assumption) | (with_reducible exact Ext.refl _) | (with_reducible refine Ext.alloc ?_ _) | (with_reducible refine Ext.drew ?_) | (with_reducible refine Ext.drewN ?_ _) | (with_reducible refine Ext.setCell ?_ ?_ _) | (with_reducible refine Ext.trans ?_ (by assumption)) | go_size)))) H1.out.2.1 H1.out.2.2.1 (H2.out.1.ext (by (repeat' (first | (with_reducible assumption) | (with_reducible exact Ext.refl _) | (with_reducible refine Ext.alloc ?_ _) | (with_reducible refine Ext.drew ?_) | (with_reducible refine Ext.drewN ?_ _) | (with_reducible refine Ext.setCell ?_ ?_ _) | (with_reducible refine Ext.trans ?_ (by assumption)) | go_size)))) H2.out.2.1 H2.out.2.2.1).mono ?_; rintro e w1 ⟨rfl, hb⟩; have hc := hb.cellE; have hf := hb.frozenE; have hz := hb.size; have ha := alloc_keeps w1; (try simp only [World.size_alloc] at hc hf hz); (try simp only [World.size_setCell] at hc hf hz); (try simp only [World.size_drew] at hc hf hz))
  go_ret
  exact ⟨rfl, by (repeat' (first | (with_reducible assumption) | (with_reducible exact Ext.refl _) | (with_reducible refine Ext.alloc ?_ _) | (with_reducible refine Ext.drew ?_) | (with_reducible refine Ext.drewN ?_ _) | (with_reducible refine Ext.setCell ?_ ?_ _) | (with_reducible refine Ext.trans ?_ (by assumption)) | go_size))⟩

end Go.Proofs.Ytdjjkhefdalokaa

/- What every law of this seat uses: integers in their bounds; the openers. -/
namespace Go.Proofs.Ytdjjkhefdalokaa
open Go.ChangeShapes Go.WideShapes Go.ChangeAt Go.RowKit Go.Deep

theorem own : ownKnob Try.prog.godebug = none := by kernel_rfl
theorem laidOut : laidOutB Try.prog = true := by kernel_rfl
theorem isI_of_wf {n : Int} (h : (Lit.int .i64 n).wf = true) : IsI n := by
  simp [Lit.wf, IntKind.min, IntKind.max, IntKind.signed, IntKind.bits] at h
  exact ⟨by omega, by omega⟩

def Pair (v : Value) : Prop := ∃ x y : Int, v = .agg #[.int .i64 x, .int .i64 y] ∧ IsI x ∧ IsI y
def Seven (v : Value) : Prop := ∃ x0 x1 x2 x3 x4 x5 x6 : Int, v = .agg #[.int .i64 x0, .int .i64 x1, .int .i64 x2, .int .i64 x3, .int .i64 x4, .int .i64 x5, .int .i64 x6] ∧ IsI x0 ∧ IsI x1 ∧ IsI x2 ∧ IsI x3 ∧ IsI x4 ∧ IsI x5 ∧ IsI x6
def Four (v : Value) : Prop := ∃ x0 x1 x2 x3 : Int, v = .agg #[.int .i64 x0, .int .i64 x1, .int .i64 x2, .int .i64 x3] ∧ IsI x0 ∧ IsI x1 ∧ IsI x2 ∧ IsI x3

section
variable {H : Type} {enc : TypeId × Value → H} {W : World}
/-- An array of ints (each one cell): what it reads. -/
theorem ints_of_array {spare : Nat → Bool} {held : Bool} {t : TypeId} {k fuel : Nat} {cs : List Value} {x : DataW H × List MemPlace} (ht : Try.prog.underlying t = some (.array k 3)) (h : DataW.trod enc Try.prog W 0 spare held fuel t cs = some x) (hc : cs.length = k) :
    ∃ q : Nat → Int, ∀ j, j < k → cs[j]? = some (.int .i64 (q j)) ∧ IsI (q j) := by
  obtain ⟨xs, m, rfl, hx, hlen, hxl, hg⟩ := DataW.trod_array ht h
  have hone : Try.prog.cellsOf 3 = 1 := by kernel_rfl
  have each : ∀ j, j < k → ∃ n : Int, cs[j]? = some (.int .i64 n) ∧ IsI n := fun j hj => by
    have h1 := hg j hj
    rw [hone, Nat.mul_one] at h1
    have hx : xs[j]? = some (xs[j]'(by omega)) := List.getElem?_eq_getElem (by omega)
    rw [hx] at h1
    obtain ⟨n, hn, _, hw⟩ := DataW.trod_int Try.underlying3 h1
    have hcj : cs[j]? = some (.int .i64 n) := by
      have e : ((cs.drop j).take 1)[0]? = some (.int .i64 n) := by rw [hn]; rfl
      rw [List.getElem?_take_of_lt (by omega), List.getElem?_drop, Nat.add_zero] at e
      exact e
    exact ⟨n, hcj, isI_of_wf hw⟩
  obtain ⟨q, hq⟩ := choose_lt each
  exact ⟨q, hq⟩

set_option maxRecDepth 100000 in
theorem open_pair {b0 : Nat} {v : Value} {d : DataW H} {p : List MemPlace} (hval : Value.okWide Try.prog W .any b0 35 v) (h : DataW.Trod enc Try.prog W 0 (fun _ => true) true 35 v d p) : Pair v := by
  have hu := Try.underlying35
  simp only [Value.okWide, hu] at hval
  obtain ⟨cs, rfl, hsz, _⟩ := hval
  have h2 : Try.prog.cellsOf 35 = 2 := by kernel_rfl
  obtain ⟨fuel, hf⟩ := h
  have hl : cs.toList.length = 2 := by rw [Array.length_toList, hsz, h2]
  obtain ⟨q, hq⟩ := ints_of_array hu hf (by simpa [Value.cells] using hl)
  obtain ⟨l⟩ := cs
  match l, hl with
  | [x0, x1], _ =>
    have e0 := hq 0 (by omega)
    have e1 := hq 1 (by omega)
    simp [Value.cells] at e0 e1
    exact ⟨q 0, q 1, by rw [e0.1, e1.1], e0.2, e1.2⟩
set_option maxRecDepth 100000 in
theorem open_seven {b0 : Nat} {v : Value} {d : DataW H} {p : List MemPlace} (hval : Value.okWide Try.prog W .any b0 22 v) (h : DataW.Trod enc Try.prog W 0 (fun _ => true) true 22 v d p) : Seven v := by
  have hu := Try.underlying22
  simp only [Value.okWide, hu] at hval
  obtain ⟨cs, rfl, hsz, _⟩ := hval
  have h2 : Try.prog.cellsOf 22 = 7 := by kernel_rfl
  obtain ⟨fuel, hf⟩ := h
  have hl : cs.toList.length = 7 := by rw [Array.length_toList, hsz, h2]
  obtain ⟨q, hq⟩ := ints_of_array hu hf (by simpa [Value.cells] using hl)
  obtain ⟨l⟩ := cs
  match l, hl with
  | [x0, x1, x2, x3, x4, x5, x6], _ =>
    have e0 := hq 0 (by omega)
    have e1 := hq 1 (by omega)
    have e2 := hq 2 (by omega)
    have e3 := hq 3 (by omega)
    have e4 := hq 4 (by omega)
    have e5 := hq 5 (by omega)
    have e6 := hq 6 (by omega)
    simp [Value.cells] at e0 e1 e2 e3 e4 e5 e6
    exact ⟨q 0, q 1, q 2, q 3, q 4, q 5, q 6, by rw [e0.1, e1.1, e2.1, e3.1, e4.1, e5.1, e6.1], e0.2, e1.2, e2.2, e3.2, e4.2, e5.2, e6.2⟩
end
end Go.Proofs.Ytdjjkhefdalokaa

/- Contracts that the laws of chapter 8 use. -/
namespace Go.Proofs.Ytdjjkhefdalokaa
open Go.RowKit

theorem pick8_k (c n : Int) (w : World) (h0 : 0 ≤ c) (h1 : c < n) (h2 : n ≤ 100000000) : Calls Try.prog 42 #[.int .i64 c, .int .i64 n] w fun e w' => e = .returned (.int .i64 c) ∧ w = w' := by
  have h := pick8_c c n w ⟨by omega, by omega⟩ (by omega) h2
  rwa [show pickF c n = c by rw [pickF_pos h0, Int.emod_eq_of_lt h0 h1]] at h
theorem pickL_i (c n : Int) (w : World) (hc : IsI c) (h0 : 0 < n) (h1 : n ≤ 100000000) : Calls Try.prog 13 #[.int .i64 c, .int .i64 n] w fun e w' => ∃ k : Int, e = .returned (.int .i64 k) ∧ 0 ≤ k ∧ k < n ∧ w = w' :=
  (pickL_c c n w hc h0 h1).mono fun _ _ ⟨he, hw⟩ => ⟨_, he, (pickF_bd h0).1, (pickF_bd h0).2, hw⟩
theorem Contains_w {b1 o1 b2 o2 : Nat} (c1 c2 : Nat) {l1 l2 : List Int} {r : Bool} (w : World) (h1 : VA w b1 o1 l1) (h2 : VA w b2 o2 l2) (hr : Globe.containsB l1 l2 = r) :
    Calls Try.prog 31 #[.agg #[.slice (some ⟨b1, o1, none⟩) 24 c1], .agg #[.slice (some ⟨b2, o2, none⟩) 24 c2]] w fun e w' => e = .returned (.bool r) ∧ Ext w w' := hr ▸ Contains_v c1 c2 w h1 (Ext.refl _) h2 (Ext.refl _)
theorem Same_w {b1 o1 b2 o2 : Nat} (c1 c2 : Nat) {l1 l2 : List Int} {r : Bool} (w : World) (h1 : VA w b1 o1 l1) (h2 : VA w b2 o2 l2) (hr : decide (l1 = l2) = r) :
    Calls Try.prog 36 #[.agg #[.slice (some ⟨b1, o1, none⟩) 24 c1], .agg #[.slice (some ⟨b2, o2, none⟩) 24 c2]] w fun e w' => e = .returned (.bool r) ∧ Ext w w' := by
  have h := Same_c c1 c2 w h1.aa (Ext.refl _) h2.aa (Ext.refl _)
  rw [← hr]; exact h
theorem Valid_w {b1 o1 : Nat} (c1 : Nat) {l1 : List Int} (w : World) (h1 : VA w b1 o1 l1) : Calls Try.prog 33 #[.agg #[.slice (some ⟨b1, o1, none⟩) 24 c1]] w fun e w' => e = .returned (.bool true) ∧ Ext w w' := Valid_e _ _ h1.aa (Ext.refl _)
set_option maxRecDepth 1000000 in
set_option maxHeartbeats 4000000 in
theorem Shot2_c (x0 x1 : Int) (w : World) (i0 : IsI x0) (h0 : 0 ≤ x1) (h1 : x1 < 30) : Calls Try.prog 12 #[.agg #[.int .i64 x0, .int .i64 x1]] w fun e w' => ∃ s : Int × Int, e = .returned (.agg #[.int .i64 s.1, .int .i64 s.2]) ∧ Swath.spB s 30 = true ∧ s.1 ≤ 2999 ∧ s.2 = s.1 + 1 + x1 ∧ Ext w w' := by
  refine calls_cw 15 [(0, .agg #[.int .i64 (x0 : Int), .int .i64 (x1 : Int)])] Try.func12 rfl Try.ntmps12 (by kernel_rfl) (by kernel_rfl) (fun L => ?_)
  have hE : Ext w w := Ext.refl w
  refine cw_seq ?_; refine cw_plain ?_
  refine pS (sn_new (us := #[.int .i64 (x0 : Int), .int .i64 (x1 : Int)]) (t := 35) (by kernel_rfl) ?_)
  intro O1 X2 hO hOs hb hbx
  have hzO1 := hO; have hyO1 := hOs; clear hO hOs
  have bO1_0 : BoxAt X2 O1 0 (.int .i64 (x0 : Int)) := hbx 0 _ rfl
  have bO1_1 : BoxAt X2 O1 1 (.int .i64 (x1 : Int)) := hbx 1 _ rfl
  clear hbx; replace hE := hE.trans hb; have hs3 := hb.size; clear hb; have lt4 := bO1_0.lt
  refine pS (sn_new (us := #[.int .i64 0, .int .i64 0]) (t := 26) (by kernel_rfl) ?_)
  intro O5 X6 hO hOs hb hbx
  have hzO5 := hO; have hyO5 := hOs; clear hO hOs
  have bO5_0 : BoxAt X6 O5 0 (.int .i64 0) := hbx 0 _ rfl
  have bO5_1 : BoxAt X6 O5 1 (.int .i64 0) := hbx 1 _ rfl
  clear hbx; replace hE := hE.trans hb; replace bO1_0 := BoxAt.ext hb bO1_0; replace bO1_1 := BoxAt.ext hb bO1_1; have hs7 := hb.size; clear hb; have lt8 := bO5_0.lt; refine pl_nil ?_; refine qw_then ?_; refine cw_seq ?_; refine cw_plain ?_
  refine pT (.pointer (some ⟨O1, 0, none⟩)) ?_
  refine pl_take (.int .i64 (x0 : Int)) rfl (by kernel_rfl) (by kernel_rfl) (by kernel_rfl) (ex_load rfl (by kernel_rfl) (ld3 (bO1_0.1))) ?_
  refine pS (sn_call (f := 42) (args := #[.int .i64 (x0 : Int), .int .i64 3000]) (by kernel_rfl) ((pick8_n _ (3000) _ i0 (by omega) (by omega)).mono ?_))
  rintro e w' ⟨pk9, rfl, pk9l, -, rfl⟩
  refine ⟨_, rfl, ?_⟩
  refine pT (.int .i64 (((pk9 : Nat) : Int) : Int)) ?_
  refine pl_nil ?_; refine qw_then ?_; refine cw_seq ?_; refine cw_plain ?_
  refine pT (.int .i64 (((pk9 : Nat) : Int) : Int)) ?_
  refine pT (.int .i64 (((pk9 : Nat) : Int) : Int)) ?_
  refine pl_take (.int .i64 (((pk9 + 1 : Nat) : Int) : Int)) rfl (by kernel_rfl) (by kernel_rfl) (by kernel_rfl) (ev_wrap (by kernel_rfl) (by omega) (by omega)) ?_
  refine pT (.pointer (some ⟨O1, 1, none⟩)) ?_
  refine pl_take (.int .i64 (x1 : Int)) rfl (by kernel_rfl) (by kernel_rfl) (by kernel_rfl) (ex_load rfl (by kernel_rfl) (ld3 (bO1_1.1))) ?_
  refine pS (sn_call (f := 42) (args := #[.int .i64 (x1 : Int), .int .i64 30]) (by kernel_rfl) ((pick8_k _ _ _ h0 h1 (by omega)).mono ?_))
  rintro e w' ⟨rfl, rfl⟩
  refine ⟨_, rfl, ?_⟩
  refine pl_take (.int .i64 ((((pk9 + 1 : Nat) : Int)) + x1 : Int)) rfl (by kernel_rfl) (by kernel_rfl) (by kernel_rfl) (ev_wrap (by kernel_rfl) (by omega) (by omega)) ?_
  refine pT (.agg #[.int .i64 (((pk9 : Nat) : Int) : Int), .int .i64 ((((pk9 + 1 : Nat) : Int)) + x1 : Int)]) ?_
  refine pl_put rfl (by kernel_rfl) (by kernel_rfl) (sn_set2 (O := O5) (j := 0) (v := .int .i64 (((pk9 : Nat) : Int) : Int)) (v' := .int .i64 ((((pk9 + 1 : Nat) : Int)) + x1 : Int)) (ex_store (p := .pointer (some ⟨O5, 0, none⟩)) (v := .agg #[.int .i64 (((pk9 : Nat) : Int) : Int), .int .i64 ((((pk9 + 1 : Nat) : Int)) + x1 : Int)]) rfl (by kernel_rfl) (by kernel_rfl) (st26 bO5_0.1 bO5_0.2 bO5_1.1 bO5_1.2)) bO5_0 bO5_1 ?_)
  intro X10 ho hv0 hv1 hk
  replace hE := ho.ext hE (T hs3 (Nat.le_of_eq hzO5)); replace bO1_0 := ho.box (Nat.ne_of_gt (Nat.lt_of_lt_of_le lt4 (Nat.le_of_eq hzO5))) bO1_0; replace bO1_1 := ho.box (Nat.ne_of_gt (Nat.lt_of_lt_of_le lt4 (Nat.le_of_eq hzO5))) bO1_1
  have hs11 : X6.heap.size ≤ X10.heap.size := Nat.le_of_eq ho.size.symm
  clear ho hk bO5_0 bO5_1
  have bO5_0 := hv0; clear hv0
  have bO5_1 := hv1; clear hv1
  refine pl_nil ?_; refine qw_then ?_
  refine cw_clean [2] (ws' := [(2, .pointer (some ⟨O5, 0, none⟩))]) (by kernel_rfl) (fun L => ?_)
  refine cw_ret ?_
  refine qw_ret [.agg #[.int .i64 (((pk9 : Nat) : Int) : Int), .int .i64 ((((pk9 + 1 : Nat) : Int)) + x1 : Int)]] rfl ⟨⟨_, by kernel_rfl, res_ld (ld26 (bO5_0.1) (bO5_1.1))⟩, trivial⟩ ?_
  exact ⟨(((pk9 : Nat) : Int), (((pk9 + 1 : Nat) : Int)) + x1), rfl, Swath.spB_t.2 ⟨by simp only []; omega, by simp only []; omega, by simp only []; omega, by simp only []; omega⟩, by simp only []; omega, rfl, hE⟩

end Go.Proofs.Ytdjjkhefdalokaa
