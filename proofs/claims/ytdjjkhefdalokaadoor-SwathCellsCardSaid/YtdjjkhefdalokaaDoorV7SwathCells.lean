/- Part 7 of what the proof of SwathCells stands on. -/
import Derived.Test.YtdjjkhefdalokaaDoorV6SwathCells
import Derived.Laws.Bits64b
import Derived.Test.YtdjjkhefdalokaaDoorTie
import Derived.Test.YtdjjkhefdalokaaDoorCards
import Derived.ProofKit
import Derived.OpenShut
import Derived.ChangeOld
import Derived.LaidMore
import Derived.Stop.Joined
import Derived.Stop.LaidErr
import Derived.Lib.LaidTab
import Derived.SevenTiedAt
import Derived.Deep.Slices
/- The examples of chapter 8. -/
namespace Go.Proofs.YtdjjkhefdalokaaDoor
open Go.RowKit

namespace Swath
def o0 : Orb := ⟨200, 0, 0, 20000, 10000, 0, 1⟩
def s0 : Int × Int := (10, 20)
def sp0 : Int × Int := (0, 60)
end Swath
theorem best_ex3 : Swath.best Swath.o0 Swath.sp0 10 3 (Swath.stripL 12 [5]) = ((17, 27), 2, true) := by kernel_rfl
theorem best_ex1 : Swath.best Swath.o0 Swath.sp0 10 1 (Swath.stripL 12 [5]) = ((0, 0), 0, false) := by kernel_rfl
theorem Best_r {w1 : World} {o : Orb} {sp : Int × Int} {mi : Int} {W : Nat} {a : Option Addr} {l : List Int} {n : Nat} {bt : (Int × Int) × Int × Bool} (c : Nat) (w : World) (hA : AA w1 a l n true) (e1 : Ext w1 w) (g1 : Orb.ok o = true) (g2 : Swath.spB sp 300 = true) (g3 : Globe.inB mi 1 60 = true) (g4 : Globe.inB ((W : Nat) : Int) 0 4 = true) (hbt : Swath.best o sp mi W l = bt) :
    Calls Tryd.prog 14 #[.agg #[.int .i64 o.p, .int .i64 o.f, .int .i64 o.lo, .int .i64 o.hi, .int .i64 o.nd, .int .i64 o.tn, .int .i64 o.sl], .agg #[.int .i64 sp.1, .int .i64 sp.2], .int .i64 mi, .int .i64 ((W : Nat) : Int), .agg #[.slice a n c]] w fun e w' => e = .returned (.tuple #[.agg #[.int .i64 bt.1.1, .int .i64 bt.1.2], .int .i64 bt.2.1, .bool bt.2.2, .int .i64 0]) ∧ Ext w w' := hbt ▸ Best_y c w hA e1 g1 g2 g3 g4
theorem rSame_v {b1 o1 b2 o2 : Nat} (c1 c2 : Nat) {l1 l2 : List Int} {r : Bool} (w : World) (h1 : VA w b1 o1 l1) (h2 : VA w b2 o2 l2) (hr : decide (l1 = l2) = r) :
    Calls Tryd.prog 17 #[.agg #[.slice (some ⟨b1, o1, none⟩) 24 c1], .agg #[.slice (some ⟨b2, o2, none⟩) 24 c2]] w fun e w' => e = .returned (.bool r) ∧ Ext w w' := hr ▸ rSame_c c1 c2 w h1.aa (Ext.refl _) h2.aa (Ext.refl _)
set_option maxRecDepth 1000000 in
set_option maxHeartbeats 4000000 in
theorem SameStrip_t {b1 o1 b2 o2 b3 o3 b4 o4 c1 c2 c3 c4 : Nat} {l1 l2 m1 m2 : List Int} (w : World) (h1 : VA w b1 o1 l1) (h2 : VA w b2 o2 l2) (h3 : VA w b3 o3 m1) (h4 : VA w b4 o4 m2) (e1 : l1 = m1) (e2 : l2 = m2) : Calls Tryd.prog 18 #[.agg #[.slice (some ⟨b1, o1, none⟩) 24 c1, .slice (some ⟨b2, o2, none⟩) 24 c2], .agg #[.slice (some ⟨b3, o3, none⟩) 24 c3, .slice (some ⟨b4, o4, none⟩) 24 c4]] w fun e w' => e = .returned (.bool true) ∧ Ext w w' := by
  refine calls_cw 17 [(1, .agg #[.slice (some ⟨b3, o3, none⟩) 24 c3, .slice (some ⟨b4, o4, none⟩) 24 c4]), (0, .agg #[.slice (some ⟨b1, o1, none⟩) 24 c1, .slice (some ⟨b2, o2, none⟩) 24 c2])] Tryd.func18 rfl Tryd.ntmps18 (by kernel_rfl) (by kernel_rfl) (fun L => ?_)
  have hE : Ext w w := Ext.refl w
  refine cw_seq ?_
  refine cw_plain ?_
  refine pl_step rfl (by kernel_rfl) (by kernel_rfl) (by kernel_rfl) (sn_new (us := #[.slice (some ⟨b1, o1, none⟩) 24 c1, .slice (some ⟨b2, o2, none⟩) 24 c2]) (t := 43) (by kernel_rfl) ?_)
  intro O1 X2 hO hOs hb hbx
  have hzO1 := hO; have hyO1 := hOs; clear hO hOs
  have bO1_0 : BoxAt X2 O1 0 (.slice (some ⟨b1, o1, none⟩) 24 c1) := hbx 0 _ rfl
  have bO1_1 : BoxAt X2 O1 1 (.slice (some ⟨b2, o2, none⟩) 24 c2) := hbx 1 _ rfl
  clear hbx
  replace hE := hE.trans hb
  have hs3 := hb.size
  clear hb
  have lt4 := bO1_0.lt
  refine pl_step rfl (by kernel_rfl) (by kernel_rfl) (by kernel_rfl) (sn_new (us := #[.slice (some ⟨b3, o3, none⟩) 24 c3, .slice (some ⟨b4, o4, none⟩) 24 c4]) (t := 43) (by kernel_rfl) ?_)
  intro O5 X6 hO hOs hb hbx
  have hzO5 := hO; have hyO5 := hOs; clear hO hOs
  have bO5_0 : BoxAt X6 O5 0 (.slice (some ⟨b3, o3, none⟩) 24 c3) := hbx 0 _ rfl
  have bO5_1 : BoxAt X6 O5 1 (.slice (some ⟨b4, o4, none⟩) 24 c4) := hbx 1 _ rfl
  clear hbx
  replace hE := hE.trans hb
  replace bO1_0 := BoxAt.ext hb bO1_0
  replace bO1_1 := BoxAt.ext hb bO1_1
  have hs7 := hb.size
  clear hb
  have lt8 := bO5_0.lt
  refine pl_take (.bool false) rfl (by kernel_rfl) (by kernel_rfl) (by kernel_rfl) (by kernel_rfl) ?_
  refine pl_nil ?_
  refine qw_then ?_
  refine cw_seq ?_
  have hX9 : Ext X6 X6 := Ext.refl _
  refine cw_plain ?_
  refine pl_take (.pointer (some ⟨O1, 0, none⟩)) rfl (by kernel_rfl) (by kernel_rfl) (by kernel_rfl) (by kernel_rfl) ?_
  refine pl_take (.agg #[.slice (some ⟨b1, o1, none⟩) 24 c1]) rfl (by kernel_rfl) (by kernel_rfl) (by kernel_rfl) (ex_load rfl (by kernel_rfl) (ld39 (bO1_0.1))) ?_
  refine pl_take (.pointer (some ⟨O5, 0, none⟩)) rfl (by kernel_rfl) (by kernel_rfl) (by kernel_rfl) (by kernel_rfl) ?_
  refine pl_take (.agg #[.slice (some ⟨b3, o3, none⟩) 24 c3]) rfl (by kernel_rfl) (by kernel_rfl) (by kernel_rfl) (ex_load rfl (by kernel_rfl) (ld39 (bO5_0.1))) ?_
  refine pl_step rfl (by kernel_rfl) (by kernel_rfl) (by kernel_rfl) (sn_call (f := 17) (args := #[.agg #[.slice (some ⟨b1, o1, none⟩) 24 c1], .agg #[.slice (some ⟨b3, o3, none⟩) 24 c3]]) (by kernel_rfl) ((rSame_v (r := true) _ _ _ ((h1.ext hE)) ((h3.ext hE)) (decide_eq_true e1)).mono ?_))
  rintro e w10 ⟨rfl, hb⟩
  replace hE := hE.trans hb
  replace hX9 := hX9.trans hb
  have hs11 := hb.size
  clear hb
  refine ⟨_, rfl, ?_⟩
  refine pl_take (.bool true) rfl (by kernel_rfl) (by kernel_rfl) (by kernel_rfl) (by kernel_rfl) ?_
  refine pl_take (.pointer (some ⟨O1, 1, none⟩)) rfl (by kernel_rfl) (by kernel_rfl) (by kernel_rfl) (by kernel_rfl) ?_
  refine pl_take (.agg #[.slice (some ⟨b2, o2, none⟩) 24 c2]) rfl (by kernel_rfl) (by kernel_rfl) (by kernel_rfl) (ex_load rfl (by kernel_rfl) (ld39 ((BoxAt.ext hX9 bO1_1).1))) ?_
  refine pl_take (.pointer (some ⟨O5, 1, none⟩)) rfl (by kernel_rfl) (by kernel_rfl) (by kernel_rfl) (by kernel_rfl) ?_
  refine pl_take (.agg #[.slice (some ⟨b4, o4, none⟩) 24 c4]) rfl (by kernel_rfl) (by kernel_rfl) (by kernel_rfl) (ex_load rfl (by kernel_rfl) (ld39 ((BoxAt.ext hX9 bO5_1).1))) ?_
  refine pl_step rfl (by kernel_rfl) (by kernel_rfl) (by kernel_rfl) (sn_call (f := 17) (args := #[.agg #[.slice (some ⟨b2, o2, none⟩) 24 c2], .agg #[.slice (some ⟨b4, o4, none⟩) 24 c4]]) (by kernel_rfl) ((rSame_v (r := true) _ _ _ ((h2.ext hE)) ((h4.ext hE)) (decide_eq_true e2)).mono ?_))
  rintro e w12 ⟨rfl, hb⟩
  replace hE := hE.trans hb
  replace hX9 := hX9.trans hb
  have hs13 := hb.size
  clear hb
  refine ⟨_, rfl, ?_⟩
  refine pl_take (.bool true) rfl (by kernel_rfl) (by kernel_rfl) (by kernel_rfl) (by kernel_rfl) ?_
  refine pl_take (.bool true) rfl (by kernel_rfl) (by kernel_rfl) (by kernel_rfl) (by kernel_rfl) ?_
  refine pl_nil ?_
  refine qw_then ?_
  refine cw_clean [4] (ws' := [(4, .bool true)]) (by kernel_rfl) (fun L => ?_)
  refine cw_ret ?_
  refine qw_ret [.bool true] rfl ⟨(by kernel_rfl), trivial⟩ ?_
  exact ⟨rfl, hE⟩
set_option maxRecDepth 1000000 in
set_option maxHeartbeats 4000000 in
theorem saneS_c (w : World) : Calls Tryd.prog 4 #[] w fun e w' => e = .returned (.bool true) ∧ Ext w w' := by
  refine calls_cw 189 [] Tryd.func4 rfl Tryd.ntmps4 (by kernel_rfl) (by kernel_rfl) (fun L => ?_)
  have hE : Ext w w := Ext.refl w
  refine cw_seq ?_
  refine cw_plain ?_
  refine pl_take (.bool false) rfl (by kernel_rfl) (by kernel_rfl) (by kernel_rfl) (by kernel_rfl) ?_
  refine pl_nil ?_
  refine qw_then ?_
  refine cw_seq ?_
  refine cw_plain ?_
  refine pl_take (.agg #[.int .i64 200, .int .i64 0, .int .i64 0, .int .i64 20000, .int .i64 10000, .int .i64 0, .int .i64 1]) rfl (by kernel_rfl) (by kernel_rfl) (by kernel_rfl) (by kernel_rfl) ?_
  refine pl_step rfl (by kernel_rfl) (by kernel_rfl) (by kernel_rfl) (sn_new (us := #[.int .i64 0, .int .i64 0, .int .i64 0, .int .i64 0, .int .i64 0, .int .i64 0, .int .i64 0]) (t := 26) (by kernel_rfl) ?_)
  intro O1 X2 hO hOs hb hbx
  have hzO1 := hO; have hyO1 := hOs; clear hO hOs
  have bO1_0 : BoxAt X2 O1 0 (.int .i64 0) := hbx 0 _ rfl
  have bO1_1 : BoxAt X2 O1 1 (.int .i64 0) := hbx 1 _ rfl
  have bO1_2 : BoxAt X2 O1 2 (.int .i64 0) := hbx 2 _ rfl
  have bO1_3 : BoxAt X2 O1 3 (.int .i64 0) := hbx 3 _ rfl
  have bO1_4 : BoxAt X2 O1 4 (.int .i64 0) := hbx 4 _ rfl
  have bO1_5 : BoxAt X2 O1 5 (.int .i64 0) := hbx 5 _ rfl
  have bO1_6 : BoxAt X2 O1 6 (.int .i64 0) := hbx 6 _ rfl
  clear hbx
  replace hE := hE.trans hb
  have hs3 := hb.size
  clear hb
  have lt4 := bO1_0.lt
  refine pl_put rfl (by kernel_rfl) (by kernel_rfl) (sn_setK7 (O := O1) (j := 0) (v0 := .int .i64 200) (v1 := .int .i64 0) (v2 := .int .i64 0) (v3 := .int .i64 20000) (v4 := .int .i64 10000) (v5 := .int .i64 0) (v6 := .int .i64 1) (ex_store (p := .pointer (some ⟨O1, 0, none⟩)) (v := .agg #[.int .i64 200, .int .i64 0, .int .i64 0, .int .i64 20000, .int .i64 10000, .int .i64 0, .int .i64 1]) rfl (by kernel_rfl) (by kernel_rfl) (st26 bO1_0.1 bO1_0.2 bO1_1.1 bO1_1.2 bO1_2.1 bO1_2.2 bO1_3.1 bO1_3.2 bO1_4.1 bO1_4.2 bO1_5.1 bO1_5.2 bO1_6.1 bO1_6.2)) bO1_0 bO1_1 bO1_2 bO1_3 bO1_4 bO1_5 bO1_6 ?_)
  intro X5 ho hv0 hv1 hv2 hv3 hv4 hv5 hv6 hk
  replace hE := ho.ext hE (Nat.le_of_eq hzO1)
  have hs6 : X2.heap.size ≤ X5.heap.size := Nat.le_of_eq ho.size.symm
  clear ho hk bO1_0 bO1_1 bO1_2 bO1_3 bO1_4 bO1_5 bO1_6
  have bO1_0 := hv0; clear hv0
  have bO1_1 := hv1; clear hv1
  have bO1_2 := hv2; clear hv2
  have bO1_3 := hv3; clear hv3
  have bO1_4 := hv4; clear hv4
  have bO1_5 := hv5; clear hv5
  have bO1_6 := hv6; clear hv6
  refine pl_nil ?_
  refine qw_then ?_
  refine cw_seq ?_
  have hX7 : Ext X5 X5 := Ext.refl _
  refine cw_plain ?_
  refine pl_take (.agg #[.int .i64 10, .int .i64 20]) rfl (by kernel_rfl) (by kernel_rfl) (by kernel_rfl) (by kernel_rfl) ?_
  refine pl_step rfl (by kernel_rfl) (by kernel_rfl) (by kernel_rfl) (sn_new (us := #[.int .i64 0, .int .i64 0]) (t := 29) (by kernel_rfl) ?_)
  intro O8 X9 hO hOs hb hbx
  have hzO8 := hO; have hyO8 := hOs; clear hO hOs
  have bO8_0 : BoxAt X9 O8 0 (.int .i64 0) := hbx 0 _ rfl
  have bO8_1 : BoxAt X9 O8 1 (.int .i64 0) := hbx 1 _ rfl
  clear hbx
  replace hE := hE.trans hb
  replace hX7 := hX7.trans hb
  have hs10 := hb.size
  clear hb
  have lt11 := bO8_0.lt
  refine pl_put rfl (by kernel_rfl) (by kernel_rfl) (sn_set2 (O := O8) (j := 0) (v := .int .i64 10) (v' := .int .i64 20) (ex_store (p := .pointer (some ⟨O8, 0, none⟩)) (v := .agg #[.int .i64 10, .int .i64 20]) rfl (by kernel_rfl) (by kernel_rfl) (st29 bO8_0.1 bO8_0.2 bO8_1.1 bO8_1.2)) bO8_0 bO8_1 ?_)
  intro X12 ho hv0 hv1 hk
  replace hE := ho.ext hE (Nat.le_trans (Nat.le_trans hs3 hs6) (Nat.le_of_eq hzO8))
  replace hX7 := ho.ext hX7 (Nat.le_of_eq hzO8)
  have hs13 : X9.heap.size ≤ X12.heap.size := Nat.le_of_eq ho.size.symm
  clear ho hk bO8_0 bO8_1
  have bO8_0 := hv0; clear hv0
  have bO8_1 := hv1; clear hv1
  refine pl_nil ?_
  refine qw_then ?_
  refine cw_seq ?_
  have hX14 : Ext X12 X12 := Ext.refl _
  refine cw_plain ?_
  refine pl_take (.agg #[.int .i64 200, .int .i64 0, .int .i64 0, .int .i64 20000, .int .i64 10000, .int .i64 0, .int .i64 1]) rfl (by kernel_rfl) (by kernel_rfl) (by kernel_rfl) (ex_load rfl (by kernel_rfl) (ld26 ((BoxAt.ext (hX7.trans hX14) bO1_0).1) ((BoxAt.ext (hX7.trans hX14) bO1_1).1) ((BoxAt.ext (hX7.trans hX14) bO1_2).1) ((BoxAt.ext (hX7.trans hX14) bO1_3).1) ((BoxAt.ext (hX7.trans hX14) bO1_4).1) ((BoxAt.ext (hX7.trans hX14) bO1_5).1) ((BoxAt.ext (hX7.trans hX14) bO1_6).1))) ?_
  refine pl_take (.agg #[.int .i64 10, .int .i64 20]) rfl (by kernel_rfl) (by kernel_rfl) (by kernel_rfl) (ex_load rfl (by kernel_rfl) (ld29 (bO8_0.1) (bO8_1.1))) ?_
  refine pl_step rfl (by kernel_rfl) (by kernel_rfl) (by kernel_rfl) (sn_call (f := 9) (args := #[.agg #[.int .i64 200, .int .i64 0, .int .i64 0, .int .i64 20000, .int .i64 10000, .int .i64 0, .int .i64 1], .agg #[.int .i64 10, .int .i64 20], .int .i64 0, .int .i64 0]) (by kernel_rfl) ((Shown_y (o := Swath.o0) (s := Swath.s0) (lk := 0) (d := 0) _ (by kernel_rfl)).mono ?_))
  rintro e w18 ⟨B15, rfl, hn16, hr17, hb⟩
  replace hE := hE.trans hb
  replace hX14 := hX14.trans hb
  have hs19 := hb.size
  clear hb
  have lt20 := hr17.lt
  refine ⟨_, rfl, ?_⟩
  refine pl_take (.tuple #[.agg #[.slice (some ⟨B15, 0, none⟩) 24 24], .int .i64 0]) rfl (by kernel_rfl) (by kernel_rfl) (by kernel_rfl) (by kernel_rfl) ?_
  refine pl_take (.agg #[.slice (some ⟨B15, 0, none⟩) 24 24]) rfl (by kernel_rfl) (by kernel_rfl) (by kernel_rfl) (by kernel_rfl) ?_
  refine pl_take (.int .i64 0) rfl (by kernel_rfl) (by kernel_rfl) (by kernel_rfl) (by kernel_rfl) ?_
  refine pl_step rfl (by kernel_rfl) (by kernel_rfl) (by kernel_rfl) (sn_new (us := #[.slice none 0 0]) (t := 39) (by kernel_rfl) ?_)
  intro O21 X22 hO hOs hb hbx
  have hzO21 := hO; have hyO21 := hOs; clear hO hOs
  have bO21_0 : BoxAt X22 O21 0 (.slice none 0 0) := hbx 0 _ rfl
  clear hbx
  replace hE := hE.trans hb
  replace hX14 := hX14.trans hb
  replace hr17 := hr17.ext hb
  have hs23 := hb.size
  clear hb
  have lt24 := bO21_0.lt
  refine pl_put rfl (by kernel_rfl) (by kernel_rfl) (sn_set (O := O21) (j := 0) (v := .slice (some ⟨B15, 0, none⟩) 24 24) (ex_store (p := .pointer (some ⟨O21, 0, none⟩)) (v := .agg #[.slice (some ⟨B15, 0, none⟩) 24 24]) rfl (by kernel_rfl) (by kernel_rfl) (st39 bO21_0.1 bO21_0.2)) bO21_0 ?_)
  intro X25 ho hv0 hk
  replace hE := ho.ext hE (Nat.le_trans (Nat.le_trans hs3 (Nat.le_trans hs6 (Nat.le_trans hs10 (Nat.le_trans hs13 hs19)))) (Nat.le_of_eq hzO21))
  replace hX14 := ho.ext hX14 (Nat.le_trans hs19 (Nat.le_of_eq hzO21))
  replace hr17 := ho.rows (Nat.ne_of_gt (Nat.lt_of_lt_of_le lt20 (Nat.le_of_eq hzO21))) hr17
  have hs26 : X22.heap.size ≤ X25.heap.size := Nat.le_of_eq ho.size.symm
  clear ho hk bO21_0
  have bO21_0 := hv0; clear hv0
  refine pl_take (.int .i64 0) rfl (by kernel_rfl) (by kernel_rfl) (by kernel_rfl) (by kernel_rfl) ?_
  refine pl_nil ?_
  refine qw_then ?_
  refine cw_seq ?_
  have hX27 : Ext X25 X25 := Ext.refl _
  refine cw_plain ?_
  have hY28 := hX7.trans hX14
  refine pl_take (.agg #[.int .i64 200, .int .i64 0, .int .i64 0, .int .i64 20000, .int .i64 10000, .int .i64 0, .int .i64 1]) rfl (by kernel_rfl) (by kernel_rfl) (by kernel_rfl) (ex_load rfl (by kernel_rfl) (ld26 ((BoxAt.ext (hY28.trans hX27) bO1_0).1) ((BoxAt.ext (hY28.trans hX27) bO1_1).1) ((BoxAt.ext (hY28.trans hX27) bO1_2).1) ((BoxAt.ext (hY28.trans hX27) bO1_3).1) ((BoxAt.ext (hY28.trans hX27) bO1_4).1) ((BoxAt.ext (hY28.trans hX27) bO1_5).1) ((BoxAt.ext (hY28.trans hX27) bO1_6).1))) ?_
  refine pl_take (.agg #[.int .i64 10, .int .i64 20]) rfl (by kernel_rfl) (by kernel_rfl) (by kernel_rfl) (ex_load rfl (by kernel_rfl) (ld29 ((BoxAt.ext (hX14.trans hX27) bO8_0).1) ((BoxAt.ext (hX14.trans hX27) bO8_1).1))) ?_
  refine pl_step rfl (by kernel_rfl) (by kernel_rfl) (by kernel_rfl) (sn_call (f := 9) (args := #[.agg #[.int .i64 200, .int .i64 0, .int .i64 0, .int .i64 20000, .int .i64 10000, .int .i64 0, .int .i64 1], .agg #[.int .i64 10, .int .i64 20], .int .i64 0, .int .i64 1]) (by kernel_rfl) ((Shown_y (o := Swath.o0) (s := Swath.s0) (lk := 0) (d := 1) _ (by kernel_rfl)).mono ?_))
  rintro e w32 ⟨B29, rfl, hn30, hr31, hb⟩
  replace hE := hE.trans hb
  replace hX27 := hX27.trans hb
  have hs33 := hb.size
  clear hb
  have lt34 := hr31.lt
  refine ⟨_, rfl, ?_⟩
  refine pl_take (.tuple #[.agg #[.slice (some ⟨B29, 0, none⟩) 24 24], .int .i64 0]) rfl (by kernel_rfl) (by kernel_rfl) (by kernel_rfl) (by kernel_rfl) ?_
  refine pl_take (.agg #[.slice (some ⟨B29, 0, none⟩) 24 24]) rfl (by kernel_rfl) (by kernel_rfl) (by kernel_rfl) (by kernel_rfl) ?_
  refine pl_take (.int .i64 0) rfl (by kernel_rfl) (by kernel_rfl) (by kernel_rfl) (by kernel_rfl) ?_
  refine pl_step rfl (by kernel_rfl) (by kernel_rfl) (by kernel_rfl) (sn_new (us := #[.slice none 0 0]) (t := 39) (by kernel_rfl) ?_)
  intro O35 X36 hO hOs hb hbx
  have hzO35 := hO; have hyO35 := hOs; clear hO hOs
  have bO35_0 : BoxAt X36 O35 0 (.slice none 0 0) := hbx 0 _ rfl
  clear hbx
  replace hE := hE.trans hb
  replace hX27 := hX27.trans hb
  replace hr31 := hr31.ext hb
  have hs37 := hb.size
  clear hb
  have lt38 := bO35_0.lt
  refine pl_put rfl (by kernel_rfl) (by kernel_rfl) (sn_set (O := O35) (j := 0) (v := .slice (some ⟨B29, 0, none⟩) 24 24) (ex_store (p := .pointer (some ⟨O35, 0, none⟩)) (v := .agg #[.slice (some ⟨B29, 0, none⟩) 24 24]) rfl (by kernel_rfl) (by kernel_rfl) (st39 bO35_0.1 bO35_0.2)) bO35_0 ?_)
  intro X39 ho hv0 hk
  replace hE := ho.ext hE (Nat.le_trans (Nat.le_trans hs3 (Nat.le_trans hs6 (Nat.le_trans hs10 (Nat.le_trans hs13 (Nat.le_trans hs19 (Nat.le_trans hs23 (Nat.le_trans hs26 hs33))))))) (Nat.le_of_eq hzO35))
  replace hX27 := ho.ext hX27 (Nat.le_trans hs33 (Nat.le_of_eq hzO35))
  replace hr31 := ho.rows (Nat.ne_of_gt (Nat.lt_of_lt_of_le lt34 (Nat.le_of_eq hzO35))) hr31
  have hs40 : X36.heap.size ≤ X39.heap.size := Nat.le_of_eq ho.size.symm
  clear ho hk bO35_0
  have bO35_0 := hv0; clear hv0
  refine pl_take (.int .i64 0) rfl (by kernel_rfl) (by kernel_rfl) (by kernel_rfl) (by kernel_rfl) ?_
  refine pl_nil ?_
  refine qw_then ?_
  refine cw_clean [1, 2, 3, 4, 5, 6] (ws' := [(1, .pointer (some ⟨O1, 0, none⟩)), (2, .pointer (some ⟨O8, 0, none⟩)), (3, .pointer (some ⟨O21, 0, none⟩)), (4, .int .i64 0), (5, .pointer (some ⟨O35, 0, none⟩)), (6, .int .i64 0)]) (by kernel_rfl) (fun L => ?_)
  refine cw_seq ?_
  have hX41 : Ext X39 X39 := Ext.refl _
  refine cw_plain ?_
  have hY42 := hX14.trans hX27
  have hY43 := hX7.trans hY42
  refine pl_take (.agg #[.int .i64 200, .int .i64 0, .int .i64 0, .int .i64 20000, .int .i64 10000, .int .i64 0, .int .i64 1]) rfl (by kernel_rfl) (by kernel_rfl) (by kernel_rfl) (ex_load rfl (by kernel_rfl) (ld26 ((BoxAt.ext (hY43.trans hX41) bO1_0).1) ((BoxAt.ext (hY43.trans hX41) bO1_1).1) ((BoxAt.ext (hY43.trans hX41) bO1_2).1) ((BoxAt.ext (hY43.trans hX41) bO1_3).1) ((BoxAt.ext (hY43.trans hX41) bO1_4).1) ((BoxAt.ext (hY43.trans hX41) bO1_5).1) ((BoxAt.ext (hY43.trans hX41) bO1_6).1))) ?_
  refine pl_take (.agg #[.int .i64 10, .int .i64 20]) rfl (by kernel_rfl) (by kernel_rfl) (by kernel_rfl) (ex_load rfl (by kernel_rfl) (ld29 ((BoxAt.ext (hY42.trans hX41) bO8_0).1) ((BoxAt.ext (hY42.trans hX41) bO8_1).1))) ?_
  refine pl_step rfl (by kernel_rfl) (by kernel_rfl) (by kernel_rfl) (sn_call (f := 9) (args := #[.agg #[.int .i64 200, .int .i64 0, .int .i64 0, .int .i64 20000, .int .i64 10000, .int .i64 0, .int .i64 1], .agg #[.int .i64 10, .int .i64 20], .int .i64 0, .int .i64 (-1 : Int)]) (by kernel_rfl) ((Shown_y (o := Swath.o0) (s := Swath.s0) (lk := 0) (d := -1) _ (by kernel_rfl)).mono ?_))
  rintro e w47 ⟨B44, rfl, hn45, hr46, hb⟩
  replace hE := hE.trans hb
  replace hX41 := hX41.trans hb
  have hs48 := hb.size
  clear hb
  have lt49 := hr46.lt
  refine ⟨_, rfl, ?_⟩
  refine pl_take (.tuple #[.agg #[.slice (some ⟨B44, 0, none⟩) 24 24], .int .i64 0]) rfl (by kernel_rfl) (by kernel_rfl) (by kernel_rfl) (by kernel_rfl) ?_
  refine pl_take (.agg #[.slice (some ⟨B44, 0, none⟩) 24 24]) rfl (by kernel_rfl) (by kernel_rfl) (by kernel_rfl) (by kernel_rfl) ?_
  refine pl_take (.int .i64 0) rfl (by kernel_rfl) (by kernel_rfl) (by kernel_rfl) (by kernel_rfl) ?_
  refine pl_step rfl (by kernel_rfl) (by kernel_rfl) (by kernel_rfl) (sn_new (us := #[.slice none 0 0]) (t := 39) (by kernel_rfl) ?_)
  intro O50 X51 hO hOs hb hbx
  have hzO50 := hO; have hyO50 := hOs; clear hO hOs
  have bO50_0 : BoxAt X51 O50 0 (.slice none 0 0) := hbx 0 _ rfl
  clear hbx
  replace hE := hE.trans hb
  replace hX41 := hX41.trans hb
  replace hr46 := hr46.ext hb
  have hs52 := hb.size
  clear hb
  have lt53 := bO50_0.lt
  refine pl_put rfl (by kernel_rfl) (by kernel_rfl) (sn_set (O := O50) (j := 0) (v := .slice (some ⟨B44, 0, none⟩) 24 24) (ex_store (p := .pointer (some ⟨O50, 0, none⟩)) (v := .agg #[.slice (some ⟨B44, 0, none⟩) 24 24]) rfl (by kernel_rfl) (by kernel_rfl) (st39 bO50_0.1 bO50_0.2)) bO50_0 ?_)
  intro X54 ho hv0 hk
  replace hE := ho.ext hE (Nat.le_trans (Nat.le_trans hs3 (Nat.le_trans hs6 (Nat.le_trans hs10 (Nat.le_trans hs13 (Nat.le_trans hs19 (Nat.le_trans hs23 (Nat.le_trans hs26 (Nat.le_trans hs33 (Nat.le_trans hs37 (Nat.le_trans hs40 hs48)))))))))) (Nat.le_of_eq hzO50))
  replace hX41 := ho.ext hX41 (Nat.le_trans hs48 (Nat.le_of_eq hzO50))
  replace hr46 := ho.rows (Nat.ne_of_gt (Nat.lt_of_lt_of_le lt49 (Nat.le_of_eq hzO50))) hr46
  have hs55 : X51.heap.size ≤ X54.heap.size := Nat.le_of_eq ho.size.symm
  clear ho hk bO50_0
  have bO50_0 := hv0; clear hv0
  refine pl_take (.int .i64 0) rfl (by kernel_rfl) (by kernel_rfl) (by kernel_rfl) (by kernel_rfl) ?_
  refine pl_nil ?_
  refine qw_then ?_
  refine cw_seq ?_
  have hX56 : Ext X54 X54 := Ext.refl _
  refine cw_plain ?_
  have hY57 := hX27.trans hX41
  have hY58 := hX14.trans hY57
  have hY59 := hX7.trans hY58
  refine pl_take (.agg #[.int .i64 200, .int .i64 0, .int .i64 0, .int .i64 20000, .int .i64 10000, .int .i64 0, .int .i64 1]) rfl (by kernel_rfl) (by kernel_rfl) (by kernel_rfl) (ex_load rfl (by kernel_rfl) (ld26 ((BoxAt.ext (hY59.trans hX56) bO1_0).1) ((BoxAt.ext (hY59.trans hX56) bO1_1).1) ((BoxAt.ext (hY59.trans hX56) bO1_2).1) ((BoxAt.ext (hY59.trans hX56) bO1_3).1) ((BoxAt.ext (hY59.trans hX56) bO1_4).1) ((BoxAt.ext (hY59.trans hX56) bO1_5).1) ((BoxAt.ext (hY59.trans hX56) bO1_6).1))) ?_
  refine pl_take (.agg #[.int .i64 10, .int .i64 20]) rfl (by kernel_rfl) (by kernel_rfl) (by kernel_rfl) (ex_load rfl (by kernel_rfl) (ld29 ((BoxAt.ext (hY58.trans hX56) bO8_0).1) ((BoxAt.ext (hY58.trans hX56) bO8_1).1))) ?_
  refine pl_step rfl (by kernel_rfl) (by kernel_rfl) (by kernel_rfl) (sn_call (f := 10) (args := #[.agg #[.int .i64 200, .int .i64 0, .int .i64 0, .int .i64 20000, .int .i64 10000, .int .i64 0, .int .i64 1], .agg #[.int .i64 10, .int .i64 20], .int .i64 2]) (by kernel_rfl) ((Strip_y (o := Swath.o0) (s := Swath.s0) (lk := 2) _ (by kernel_rfl)).mono ?_))
  rintro e w69 ⟨B60, g61, k62, k63, rfl, hn64, hn65, hne66, hr67, hr68, hb⟩
  replace hE := hE.trans hb
  replace hX56 := hX56.trans hb
  have hs70 := hb.size
  clear hb
  have lt71 := hr67.lt
  have lt72 := hr68.lt
  have hne66h := Lib.hid hne66
  refine ⟨_, rfl, ?_⟩
  refine pl_take (.tuple #[.agg #[.slice (some ⟨B60, 0, none⟩) 24 k62, .slice (some ⟨g61, 0, none⟩) 24 k63], .int .i64 0]) rfl (by kernel_rfl) (by kernel_rfl) (by kernel_rfl) (by kernel_rfl) ?_
  refine pl_take (.agg #[.slice (some ⟨B60, 0, none⟩) 24 k62, .slice (some ⟨g61, 0, none⟩) 24 k63]) rfl (by kernel_rfl) (by kernel_rfl) (by kernel_rfl) (by kernel_rfl) ?_
  refine pl_take (.int .i64 0) rfl (by kernel_rfl) (by kernel_rfl) (by kernel_rfl) (by kernel_rfl) ?_
  refine pl_step rfl (by kernel_rfl) (by kernel_rfl) (by kernel_rfl) (sn_new (us := #[.slice none 0 0, .slice none 0 0]) (t := 43) (by kernel_rfl) ?_)
  intro O73 X74 hO hOs hb hbx
  have hzO73 := hO; have hyO73 := hOs; clear hO hOs
  have bO73_0 : BoxAt X74 O73 0 (.slice none 0 0) := hbx 0 _ rfl
  have bO73_1 : BoxAt X74 O73 1 (.slice none 0 0) := hbx 1 _ rfl
  clear hbx
  replace hE := hE.trans hb
  replace hX56 := hX56.trans hb
  replace hr67 := hr67.ext hb
  replace hr68 := hr68.ext hb
  have hs75 := hb.size
  clear hb
  have lt76 := bO73_0.lt
  refine pl_put rfl (by kernel_rfl) (by kernel_rfl) (sn_set2 (O := O73) (j := 0) (v := .slice (some ⟨B60, 0, none⟩) 24 k62) (v' := .slice (some ⟨g61, 0, none⟩) 24 k63) (ex_store (p := .pointer (some ⟨O73, 0, none⟩)) (v := .agg #[.slice (some ⟨B60, 0, none⟩) 24 k62, .slice (some ⟨g61, 0, none⟩) 24 k63]) rfl (by kernel_rfl) (by kernel_rfl) (st43 bO73_0.1 bO73_0.2 bO73_1.1 bO73_1.2)) bO73_0 bO73_1 ?_)
  intro X77 ho hv0 hv1 hk
  replace hE := ho.ext hE (Nat.le_trans (Nat.le_trans hs3 (Nat.le_trans hs6 (Nat.le_trans hs10 (Nat.le_trans hs13 (Nat.le_trans hs19 (Nat.le_trans hs23 (Nat.le_trans hs26 (Nat.le_trans hs33 (Nat.le_trans hs37 (Nat.le_trans hs40 (Nat.le_trans hs48 (Nat.le_trans hs52 (Nat.le_trans hs55 hs70))))))))))))) (Nat.le_of_eq hzO73))
  replace hX56 := ho.ext hX56 (Nat.le_trans hs70 (Nat.le_of_eq hzO73))
  replace hr67 := ho.rows (Nat.ne_of_gt (Nat.lt_of_lt_of_le lt71 (Nat.le_of_eq hzO73))) hr67
  replace hr68 := ho.rows (Nat.ne_of_gt (Nat.lt_of_lt_of_le lt72 (Nat.le_of_eq hzO73))) hr68
  have hs78 : X74.heap.size ≤ X77.heap.size := Nat.le_of_eq ho.size.symm
  clear ho hk bO73_0 bO73_1
  have bO73_0 := hv0; clear hv0
  have bO73_1 := hv1; clear hv1
  refine pl_take (.int .i64 0) rfl (by kernel_rfl) (by kernel_rfl) (by kernel_rfl) (by kernel_rfl) ?_
  refine pl_nil ?_
  refine qw_then ?_
  refine cw_clean [1, 2, 3, 4, 5, 6, 7, 8, 9, 10] (ws' := [(1, .pointer (some ⟨O1, 0, none⟩)), (2, .pointer (some ⟨O8, 0, none⟩)), (3, .pointer (some ⟨O21, 0, none⟩)), (4, .int .i64 0), (5, .pointer (some ⟨O35, 0, none⟩)), (6, .int .i64 0), (7, .pointer (some ⟨O50, 0, none⟩)), (8, .int .i64 0), (9, .pointer (some ⟨O73, 0, none⟩)), (10, .int .i64 0)]) (by kernel_rfl) (fun L => ?_)
  refine cw_seq ?_
  have hX79 : Ext X77 X77 := Ext.refl _
  have hY80 := hX41.trans hX56
  have hY81 := hX27.trans hY80
  have hY82 := hX14.trans hY81
  have hY83 := hX7.trans hY82
  refine cw_join (fun ws' Y => ∃ O87 : Nat, ∃ B92 : Nat, ∃ O103 : Nat, ws' = [(1, .pointer (some ⟨O1, 0, none⟩)), (2, .pointer (some ⟨O8, 0, none⟩)), (3, .pointer (some ⟨O21, 0, none⟩)), (4, .int .i64 0), (5, .pointer (some ⟨O35, 0, none⟩)), (6, .int .i64 0), (7, .pointer (some ⟨O50, 0, none⟩)), (8, .int .i64 0), (9, .pointer (some ⟨O73, 0, none⟩)), (10, .int .i64 0), (11, .pointer (some ⟨O103, 0, none⟩)), (12, .int .i64 2), (13, .bool true), (14, .int .i64 0)] ∧ Ext w Y ∧ Ext X77 Y ∧ BoxAt Y O87 0 (.int .i64 5) ∧ RowsAt Y B92 (Swath.stripL 12 [5]) ∧ BoxAt Y O103 0 (.int .i64 17) ∧ BoxAt Y O103 1 (.int .i64 27) ∧ X77.heap.size ≤ Y.heap.size ∧ X77.heap.size ≤ O87 ∧ X77.heap.size ≤ B92 ∧ X77.heap.size ≤ O103 ∧ Hid (O87 ≠ B92) ∧ Hid (O87 ≠ O103) ∧ Hid (B92 ≠ O103)) (fun hJ => ?_) ?_
  ·
    refine cw_draw [(some 53, [1], []), (some 54, [], []), (some 55, [], []), (some 56, [55], [2]), (some 57, [53, 54, 56], [0, 1, 3, 3]), (some 52, [57], [4]), (some 58, [52], [5]), (some 59, [52], [5]), (some 60, [52], [5]), (some 61, [52], [5]), (some 11, [], []), (none, [11, 58], [10, 6, 4, 0, 1, 2, 3, 4, 5, 6, 10]), (some 12, [59], [7, 11, 0, 1, 2, 3, 4, 5, 6, 7, 10, 11]), (some 13, [60], [8, 12, 0, 1, 2, 3, 4, 5, 6, 7, 8, 10, 11, 12]), (some 14, [61], [9, 13, 0, 1, 2, 3, 4, 5, 6, 7, 8, 9, 10, 11, 12, 13])] (fun w' => w'.cell? ⟨O1, 0, none⟩ = some (.int .i64 200) ∧ w'.cell? ⟨O1, 1, none⟩ = some (.int .i64 0) ∧ w'.cell? ⟨O1, 2, none⟩ = some (.int .i64 0) ∧ w'.cell? ⟨O1, 3, none⟩ = some (.int .i64 20000) ∧ w'.cell? ⟨O1, 4, none⟩ = some (.int .i64 10000) ∧ w'.cell? ⟨O1, 5, none⟩ = some (.int .i64 0) ∧ w'.cell? ⟨O1, 6, none⟩ = some (.int .i64 1)) (by kernel_rfl) (by kernel_rfl) (by kernel_rfl) (by kernel_rfl) ((calm_then calm_body)) (⟨(BoxAt.ext (hY83.trans hX79) bO1_0).1, (BoxAt.ext (hY83.trans hX79) bO1_1).1, (BoxAt.ext (hY83.trans hX79) bO1_2).1, (BoxAt.ext (hY83.trans hX79) bO1_3).1, (BoxAt.ext (hY83.trans hX79) bO1_4).1, (BoxAt.ext (hY83.trans hX79) bO1_5).1, (BoxAt.ext (hY83.trans hX79) bO1_6).1⟩) (fun ops Q X84 hb hL hR hK => ?_)
    replace hE := hE.trans hb
    replace hX79 := hX79.trans hb
    have hs85 := hb.size
    clear hb
    have hS86 := And.intro ((BoxAt.ext (hY83.trans hX79) bO1_0).1) (And.intro ((BoxAt.ext (hY83.trans hX79) bO1_1).1) (And.intro ((BoxAt.ext (hY83.trans hX79) bO1_2).1) (And.intro ((BoxAt.ext (hY83.trans hX79) bO1_3).1) (And.intro ((BoxAt.ext (hY83.trans hX79) bO1_4).1) (And.intro ((BoxAt.ext (hY83.trans hX79) bO1_5).1) ((BoxAt.ext (hY83.trans hX79) bO1_6).1))))))
    refine wd_take 0 (.agg #[.int .i64 200, .int .i64 0, .int .i64 0, .int .i64 20000, .int .i64 10000, .int .i64 0, .int .i64 1]) hR rfl (by kernel_rfl) rfl (by kernel_rfl) (fun w hS => ex_load rfl (by kernel_rfl) (ld26 (hS.1) (hS.2.1) (hS.2.2.1) (hS.2.2.2.1) (hS.2.2.2.2.1) (hS.2.2.2.2.2.1) (hS.2.2.2.2.2.2))) (hS86) ?_
    refine wd_take 1 (.agg #[.int .i64 0, .int .i64 60]) hR rfl (by kernel_rfl) rfl (by kernel_rfl) (fun w _ => by kernel_rfl) (hS86) ?_
    refine wd_two 2 10 hR rfl rfl (by kernel_rfl) (by kernel_rfl) (by kernel_rfl) (by kernel_rfl) ?_ ?_
    ·
      refine sn_newS (us := #[.int .i64 5]) (t := 3) (k := 1) (c := 1) (by kernel_rfl) ?_
      intro O87 X88 hO hOs hb hbx
      have hzO87 := hO; have hyO87 := hOs; clear hO hOs
      have bO87_0 : BoxAt X88 O87 0 (.int .i64 5) := hbx 0 _ rfl
      clear hbx
      replace hE := hE.trans hb
      replace hX79 := hX79.trans hb
      have hs89 := hb.size
      clear hb
      have lt90 := bO87_0.lt
      have hS91 := And.intro ((BoxAt.ext (hY83.trans hX79) bO1_0).1) (And.intro ((BoxAt.ext (hY83.trans hX79) bO1_1).1) (And.intro ((BoxAt.ext (hY83.trans hX79) bO1_2).1) (And.intro ((BoxAt.ext (hY83.trans hX79) bO1_3).1) (And.intro ((BoxAt.ext (hY83.trans hX79) bO1_4).1) (And.intro ((BoxAt.ext (hY83.trans hX79) bO1_5).1) ((BoxAt.ext (hY83.trans hX79) bO1_6).1))))))
      refine ⟨hS91, ?_⟩
      refine wd_two 3 10 hR rfl rfl (by kernel_rfl) (by kernel_rfl) (by kernel_rfl) (by kernel_rfl) ?_ ?_
      ·
        have hI95 : IntsAt X88 (some ⟨O87, 0, none⟩) ((([5] : List Nat)).map fun y => ((y : Nat) : Int)) := (.inr ⟨O87, 0, rfl, fun i hi => by
          match i, hi with
          | 0, _ => exact bO87_0.1
          | _ + 1, hi => exact absurd hi (by simp)⟩)
        refine sn_call (f := 15) (args := #[.int .i64 12, .slice (some ⟨O87, 0, none⟩) 1 1]) (by kernel_rfl) ((strip_c (x := 12) (ys := [5]) _ (by decide) hI95 rfl (by decide) (by decide) (Ext.refl _)).mono ?_)
        rintro e w96 ⟨B92, rfl, hn93, hr94, hb⟩
        replace hE := hE.trans hb
        replace hX79 := hX79.trans hb
        replace bO87_0 := BoxAt.ext hb bO87_0
        have hs97 := hb.size
        clear hb
        have lt98 := hr94.lt
        have hS99 := And.intro ((BoxAt.ext (hY83.trans hX79) bO1_0).1) (And.intro ((BoxAt.ext (hY83.trans hX79) bO1_1).1) (And.intro ((BoxAt.ext (hY83.trans hX79) bO1_2).1) (And.intro ((BoxAt.ext (hY83.trans hX79) bO1_3).1) (And.intro ((BoxAt.ext (hY83.trans hX79) bO1_4).1) (And.intro ((BoxAt.ext (hY83.trans hX79) bO1_5).1) ((BoxAt.ext (hY83.trans hX79) bO1_6).1))))))
        refine ⟨_, rfl, hS99, ?_⟩
        refine wd_two 4 10 hR rfl rfl (by kernel_rfl) (by kernel_rfl) (by kernel_rfl) (by kernel_rfl) ?_ ?_
        ·
          refine sn_call (f := 14) (args := #[.agg #[.int .i64 200, .int .i64 0, .int .i64 0, .int .i64 20000, .int .i64 10000, .int .i64 0, .int .i64 1], .agg #[.int .i64 0, .int .i64 60], .int .i64 10, .int .i64 3, .agg #[.slice (some ⟨B92, 0, none⟩) 24 24]]) (by kernel_rfl) ((Best_r (o := Swath.o0) (sp := Swath.sp0) (mi := 10) (W := 3) (bt := ((17, 27), 2, true)) _ _ (RowsAt.va hr94 (by kernel_rfl)).aa (Ext.refl _) rfl rfl rfl rfl (best_ex3)).mono ?_)
          rintro e w100 ⟨rfl, hb⟩
          replace hE := hE.trans hb
          replace hX79 := hX79.trans hb
          replace bO87_0 := BoxAt.ext hb bO87_0
          replace hr94 := hr94.ext hb
          have hs101 := hb.size
          clear hb
          have hS102 := And.intro ((BoxAt.ext (hY83.trans hX79) bO1_0).1) (And.intro ((BoxAt.ext (hY83.trans hX79) bO1_1).1) (And.intro ((BoxAt.ext (hY83.trans hX79) bO1_2).1) (And.intro ((BoxAt.ext (hY83.trans hX79) bO1_3).1) (And.intro ((BoxAt.ext (hY83.trans hX79) bO1_4).1) (And.intro ((BoxAt.ext (hY83.trans hX79) bO1_5).1) ((BoxAt.ext (hY83.trans hX79) bO1_6).1))))))
          refine ⟨_, rfl, hS102, ?_⟩
          refine wd_take 5 (.tuple #[.agg #[.int .i64 17, .int .i64 27], .int .i64 2, .bool true, .int .i64 0]) hR rfl (by kernel_rfl) rfl (by kernel_rfl) (fun w _ => by kernel_rfl) (hS102) ?_
          refine wd_take 6 (.agg #[.int .i64 17, .int .i64 27]) hR rfl (by kernel_rfl) rfl (by kernel_rfl) (fun w _ => by kernel_rfl) (hS102) ?_
          refine wd_take 7 (.int .i64 2) hR rfl (by kernel_rfl) rfl (by kernel_rfl) (fun w _ => by kernel_rfl) (hS102) ?_
          refine wd_take 8 (.bool true) hR rfl (by kernel_rfl) rfl (by kernel_rfl) (fun w _ => by kernel_rfl) (hS102) ?_
          refine wd_take 9 (.int .i64 0) hR rfl (by kernel_rfl) rfl (by kernel_rfl) (fun w _ => by kernel_rfl) (hS102) ?_
          refine wd_step 10 hR rfl (by kernel_rfl) (by kernel_rfl) (by kernel_rfl) (sn_new (us := #[.int .i64 0, .int .i64 0]) (t := 29) (by kernel_rfl) ?_)
          intro O103 X104 hO hOs hb hbx
          have hzO103 := hO; have hyO103 := hOs; clear hO hOs
          have bO103_0 : BoxAt X104 O103 0 (.int .i64 0) := hbx 0 _ rfl
          have bO103_1 : BoxAt X104 O103 1 (.int .i64 0) := hbx 1 _ rfl
          clear hbx
          replace hE := hE.trans hb
          replace hX79 := hX79.trans hb
          replace bO87_0 := BoxAt.ext hb bO87_0
          replace hr94 := hr94.ext hb
          have hs105 := hb.size
          clear hb
          have lt106 := bO103_0.lt
          have hS107 := And.intro ((BoxAt.ext (hY83.trans hX79) bO1_0).1) (And.intro ((BoxAt.ext (hY83.trans hX79) bO1_1).1) (And.intro ((BoxAt.ext (hY83.trans hX79) bO1_2).1) (And.intro ((BoxAt.ext (hY83.trans hX79) bO1_3).1) (And.intro ((BoxAt.ext (hY83.trans hX79) bO1_4).1) (And.intro ((BoxAt.ext (hY83.trans hX79) bO1_5).1) ((BoxAt.ext (hY83.trans hX79) bO1_6).1))))))
          refine ⟨hS107, ?_⟩
          refine wd_step 11 hR rfl (by kernel_rfl) (by kernel_rfl) (by kernel_rfl) (sn_set2 (O := O103) (j := 0) (v := .int .i64 17) (v' := .int .i64 27) (ex_store (p := .pointer (some ⟨O103, 0, none⟩)) (v := .agg #[.int .i64 17, .int .i64 27]) rfl (by kernel_rfl) (by kernel_rfl) (st29 bO103_0.1 bO103_0.2 bO103_1.1 bO103_1.2)) bO103_0 bO103_1 ?_)
          intro X108 ho hv0 hv1 hk
          replace hE := ho.ext hE (Nat.le_trans (Nat.le_trans hs3 (Nat.le_trans hs6 (Nat.le_trans hs10 (Nat.le_trans hs13 (Nat.le_trans hs19 (Nat.le_trans hs23 (Nat.le_trans hs26 (Nat.le_trans hs33 (Nat.le_trans hs37 (Nat.le_trans hs40 (Nat.le_trans hs48 (Nat.le_trans hs52 (Nat.le_trans hs55 (Nat.le_trans hs70 (Nat.le_trans hs75 (Nat.le_trans hs78 (Nat.le_trans hs85 (Nat.le_trans hs89 (Nat.le_trans hs97 hs101))))))))))))))))))) (Nat.le_of_eq hzO103))
          replace hX79 := ho.ext hX79 (Nat.le_trans (Nat.le_trans hs85 (Nat.le_trans hs89 (Nat.le_trans hs97 hs101))) (Nat.le_of_eq hzO103))
          replace bO87_0 := ho.box (Nat.ne_of_gt (Nat.lt_of_lt_of_le lt90 (Nat.le_trans (Nat.le_trans hs97 hs101) (Nat.le_of_eq hzO103)))) bO87_0
          replace hr94 := ho.rows (Nat.ne_of_gt (Nat.lt_of_lt_of_le lt98 (Nat.le_trans hs101 (Nat.le_of_eq hzO103)))) hr94
          have hs109 : X104.heap.size ≤ X108.heap.size := Nat.le_of_eq ho.size.symm
          clear ho hk bO103_0 bO103_1
          have bO103_0 := hv0; clear hv0
          have bO103_1 := hv1; clear hv1
          have hS110 := And.intro ((BoxAt.ext (hY83.trans hX79) bO1_0).1) (And.intro ((BoxAt.ext (hY83.trans hX79) bO1_1).1) (And.intro ((BoxAt.ext (hY83.trans hX79) bO1_2).1) (And.intro ((BoxAt.ext (hY83.trans hX79) bO1_3).1) (And.intro ((BoxAt.ext (hY83.trans hX79) bO1_4).1) (And.intro ((BoxAt.ext (hY83.trans hX79) bO1_5).1) ((BoxAt.ext (hY83.trans hX79) bO1_6).1))))))
          refine ⟨hS110, ?_⟩
          refine wd_take 12 (.int .i64 2) hR rfl (by kernel_rfl) rfl (by kernel_rfl) (fun w _ => by kernel_rfl) (hS110) ?_
          refine wd_take 13 (.bool true) hR rfl (by kernel_rfl) rfl (by kernel_rfl) (fun w _ => by kernel_rfl) (hS110) ?_
          refine wd_take 14 (.int .i64 0) hR rfl (by kernel_rfl) rfl (by kernel_rfl) (fun w _ => by kernel_rfl) (hS110) ?_
          refine wd_end hL hR hK (by kernel_rfl) ?_
          exact qw_leaf hJ [1, 2, 3, 4, 5, 6, 7, 8, 9, 10, 11, 12, 13, 14] (ws' := [(1, .pointer (some ⟨O1, 0, none⟩)), (2, .pointer (some ⟨O8, 0, none⟩)), (3, .pointer (some ⟨O21, 0, none⟩)), (4, .int .i64 0), (5, .pointer (some ⟨O35, 0, none⟩)), (6, .int .i64 0), (7, .pointer (some ⟨O50, 0, none⟩)), (8, .int .i64 0), (9, .pointer (some ⟨O73, 0, none⟩)), (10, .int .i64 0), (11, .pointer (some ⟨O103, 0, none⟩)), (12, .int .i64 2), (13, .bool true), (14, .int .i64 0)]) (by kernel_rfl) ⟨O87, B92, O103, rfl, hE, hX79, bO87_0, hr94, bO103_0, bO103_1, (Nat.le_trans hs85 (Nat.le_trans hs89 (Nat.le_trans hs97 (Nat.le_trans hs101 (Nat.le_trans hs105 hs109))))), (Nat.le_trans hs85 (Nat.le_of_eq hzO87)), (Nat.le_trans (Nat.le_trans hs85 hs89) hn93), (Nat.le_trans (Nat.le_trans hs85 (Nat.le_trans hs89 (Nat.le_trans hs97 hs101))) (Nat.le_of_eq hzO103)), Lib.hid (Nat.ne_of_lt (Nat.lt_of_lt_of_le lt90 hn93)), Lib.hid (Nat.ne_of_lt (Nat.lt_of_lt_of_le lt90 (Nat.le_trans (Nat.le_trans hs97 hs101) (Nat.le_of_eq hzO103)))), Lib.hid (Nat.ne_of_lt (Nat.lt_of_lt_of_le lt98 (Nat.le_trans hs101 (Nat.le_of_eq hzO103))))⟩
        ·
          refine sn_new (us := #[.int .i64 0, .int .i64 0]) (t := 29) (by kernel_rfl) ?_
          intro O111 X112 hO hOs hb hbx
          have hzO111 := hO; have hyO111 := hOs; clear hO hOs
          have bO111_0 : BoxAt X112 O111 0 (.int .i64 0) := hbx 0 _ rfl
          have bO111_1 : BoxAt X112 O111 1 (.int .i64 0) := hbx 1 _ rfl
          clear hbx
          replace hE := hE.trans hb
          replace hX79 := hX79.trans hb
          replace bO87_0 := BoxAt.ext hb bO87_0
          replace hr94 := hr94.ext hb
          have hs113 := hb.size
          clear hb
          have lt114 := bO111_0.lt
          have hS115 := And.intro ((BoxAt.ext (hY83.trans hX79) bO1_0).1) (And.intro ((BoxAt.ext (hY83.trans hX79) bO1_1).1) (And.intro ((BoxAt.ext (hY83.trans hX79) bO1_2).1) (And.intro ((BoxAt.ext (hY83.trans hX79) bO1_3).1) (And.intro ((BoxAt.ext (hY83.trans hX79) bO1_4).1) (And.intro ((BoxAt.ext (hY83.trans hX79) bO1_5).1) ((BoxAt.ext (hY83.trans hX79) bO1_6).1))))))
          refine ⟨hS115, ?_⟩
          refine wd_step 4 hR rfl (by kernel_rfl) (by kernel_rfl) (by kernel_rfl) (sn_call (f := 14) (args := #[.agg #[.int .i64 200, .int .i64 0, .int .i64 0, .int .i64 20000, .int .i64 10000, .int .i64 0, .int .i64 1], .agg #[.int .i64 0, .int .i64 60], .int .i64 10, .int .i64 3, .agg #[.slice (some ⟨B92, 0, none⟩) 24 24]]) (by kernel_rfl) ((Best_r (o := Swath.o0) (sp := Swath.sp0) (mi := 10) (W := 3) (bt := ((17, 27), 2, true)) _ _ (RowsAt.va hr94 (by kernel_rfl)).aa (Ext.refl _) rfl rfl rfl rfl (best_ex3)).mono ?_))
          rintro e w116 ⟨rfl, hb⟩
          replace hE := hE.trans hb
          replace hX79 := hX79.trans hb
          replace bO87_0 := BoxAt.ext hb bO87_0
          replace hr94 := hr94.ext hb
          replace bO111_0 := BoxAt.ext hb bO111_0
          replace bO111_1 := BoxAt.ext hb bO111_1
          have hs117 := hb.size
          clear hb
          have hS118 := And.intro ((BoxAt.ext (hY83.trans hX79) bO1_0).1) (And.intro ((BoxAt.ext (hY83.trans hX79) bO1_1).1) (And.intro ((BoxAt.ext (hY83.trans hX79) bO1_2).1) (And.intro ((BoxAt.ext (hY83.trans hX79) bO1_3).1) (And.intro ((BoxAt.ext (hY83.trans hX79) bO1_4).1) (And.intro ((BoxAt.ext (hY83.trans hX79) bO1_5).1) ((BoxAt.ext (hY83.trans hX79) bO1_6).1))))))
          refine ⟨_, rfl, hS118, ?_⟩
          refine wd_take 5 (.tuple #[.agg #[.int .i64 17, .int .i64 27], .int .i64 2, .bool true, .int .i64 0]) hR rfl (by kernel_rfl) rfl (by kernel_rfl) (fun w _ => by kernel_rfl) (hS118) ?_
          refine wd_take 6 (.agg #[.int .i64 17, .int .i64 27]) hR rfl (by kernel_rfl) rfl (by kernel_rfl) (fun w _ => by kernel_rfl) (hS118) ?_
          refine wd_take 7 (.int .i64 2) hR rfl (by kernel_rfl) rfl (by kernel_rfl) (fun w _ => by kernel_rfl) (hS118) ?_
          refine wd_take 8 (.bool true) hR rfl (by kernel_rfl) rfl (by kernel_rfl) (fun w _ => by kernel_rfl) (hS118) ?_
          refine wd_take 9 (.int .i64 0) hR rfl (by kernel_rfl) rfl (by kernel_rfl) (fun w _ => by kernel_rfl) (hS118) ?_
          refine wd_step 11 hR rfl (by kernel_rfl) (by kernel_rfl) (by kernel_rfl) (sn_set2 (O := O111) (j := 0) (v := .int .i64 17) (v' := .int .i64 27) (ex_store (p := .pointer (some ⟨O111, 0, none⟩)) (v := .agg #[.int .i64 17, .int .i64 27]) rfl (by kernel_rfl) (by kernel_rfl) (st29 bO111_0.1 bO111_0.2 bO111_1.1 bO111_1.2)) bO111_0 bO111_1 ?_)
          intro X119 ho hv0 hv1 hk
          replace hE := ho.ext hE (Nat.le_trans (Nat.le_trans hs3 (Nat.le_trans hs6 (Nat.le_trans hs10 (Nat.le_trans hs13 (Nat.le_trans hs19 (Nat.le_trans hs23 (Nat.le_trans hs26 (Nat.le_trans hs33 (Nat.le_trans hs37 (Nat.le_trans hs40 (Nat.le_trans hs48 (Nat.le_trans hs52 (Nat.le_trans hs55 (Nat.le_trans hs70 (Nat.le_trans hs75 (Nat.le_trans hs78 (Nat.le_trans hs85 (Nat.le_trans hs89 hs97)))))))))))))))))) (Nat.le_of_eq hzO111))
          replace hX79 := ho.ext hX79 (Nat.le_trans (Nat.le_trans hs85 (Nat.le_trans hs89 hs97)) (Nat.le_of_eq hzO111))
          replace bO87_0 := ho.box (Nat.ne_of_gt (Nat.lt_of_lt_of_le lt90 (Nat.le_trans hs97 (Nat.le_of_eq hzO111)))) bO87_0
          replace hr94 := ho.rows (Nat.ne_of_gt (Nat.lt_of_lt_of_le lt98 (Nat.le_of_eq hzO111))) hr94
          have hs120 : w116.heap.size ≤ X119.heap.size := Nat.le_of_eq ho.size.symm
          clear ho hk bO111_0 bO111_1
          have bO111_0 := hv0; clear hv0
          have bO111_1 := hv1; clear hv1
          have hS121 := And.intro ((BoxAt.ext (hY83.trans hX79) bO1_0).1) (And.intro ((BoxAt.ext (hY83.trans hX79) bO1_1).1) (And.intro ((BoxAt.ext (hY83.trans hX79) bO1_2).1) (And.intro ((BoxAt.ext (hY83.trans hX79) bO1_3).1) (And.intro ((BoxAt.ext (hY83.trans hX79) bO1_4).1) (And.intro ((BoxAt.ext (hY83.trans hX79) bO1_5).1) ((BoxAt.ext (hY83.trans hX79) bO1_6).1))))))
          refine ⟨hS121, ?_⟩
          refine wd_take 12 (.int .i64 2) hR rfl (by kernel_rfl) rfl (by kernel_rfl) (fun w _ => by kernel_rfl) (hS121) ?_
          refine wd_take 13 (.bool true) hR rfl (by kernel_rfl) rfl (by kernel_rfl) (fun w _ => by kernel_rfl) (hS121) ?_
          refine wd_take 14 (.int .i64 0) hR rfl (by kernel_rfl) rfl (by kernel_rfl) (fun w _ => by kernel_rfl) (hS121) ?_
          refine wd_end hL hR hK (by kernel_rfl) ?_
          exact qw_leaf hJ [1, 2, 3, 4, 5, 6, 7, 8, 9, 10, 11, 12, 13, 14] (ws' := [(1, .pointer (some ⟨O1, 0, none⟩)), (2, .pointer (some ⟨O8, 0, none⟩)), (3, .pointer (some ⟨O21, 0, none⟩)), (4, .int .i64 0), (5, .pointer (some ⟨O35, 0, none⟩)), (6, .int .i64 0), (7, .pointer (some ⟨O50, 0, none⟩)), (8, .int .i64 0), (9, .pointer (some ⟨O73, 0, none⟩)), (10, .int .i64 0), (11, .pointer (some ⟨O111, 0, none⟩)), (12, .int .i64 2), (13, .bool true), (14, .int .i64 0)]) (by kernel_rfl) ⟨O87, B92, O111, rfl, hE, hX79, bO87_0, hr94, bO111_0, bO111_1, (Nat.le_trans hs85 (Nat.le_trans hs89 (Nat.le_trans hs97 (Nat.le_trans hs113 (Nat.le_trans hs117 hs120))))), (Nat.le_trans hs85 (Nat.le_of_eq hzO87)), (Nat.le_trans (Nat.le_trans hs85 hs89) hn93), (Nat.le_trans (Nat.le_trans hs85 (Nat.le_trans hs89 hs97)) (Nat.le_of_eq hzO111)), Lib.hid (Nat.ne_of_lt (Nat.lt_of_lt_of_le lt90 hn93)), Lib.hid (Nat.ne_of_lt (Nat.lt_of_lt_of_le lt90 (Nat.le_trans hs97 (Nat.le_of_eq hzO111)))), Lib.hid (Nat.ne_of_lt (Nat.lt_of_lt_of_le lt98 (Nat.le_of_eq hzO111)))⟩
      ·
        refine sn_new (us := #[.int .i64 0, .int .i64 0]) (t := 29) (by kernel_rfl) ?_
        intro O122 X123 hO hOs hb hbx
        have hzO122 := hO; have hyO122 := hOs; clear hO hOs
        have bO122_0 : BoxAt X123 O122 0 (.int .i64 0) := hbx 0 _ rfl
        have bO122_1 : BoxAt X123 O122 1 (.int .i64 0) := hbx 1 _ rfl
        clear hbx
        replace hE := hE.trans hb
        replace hX79 := hX79.trans hb
        replace bO87_0 := BoxAt.ext hb bO87_0
        have hs124 := hb.size
        clear hb
        have lt125 := bO122_0.lt
        have hS126 := And.intro ((BoxAt.ext (hY83.trans hX79) bO1_0).1) (And.intro ((BoxAt.ext (hY83.trans hX79) bO1_1).1) (And.intro ((BoxAt.ext (hY83.trans hX79) bO1_2).1) (And.intro ((BoxAt.ext (hY83.trans hX79) bO1_3).1) (And.intro ((BoxAt.ext (hY83.trans hX79) bO1_4).1) (And.intro ((BoxAt.ext (hY83.trans hX79) bO1_5).1) ((BoxAt.ext (hY83.trans hX79) bO1_6).1))))))
        refine ⟨hS126, ?_⟩
        have hI130 : IntsAt X123 (some ⟨O87, 0, none⟩) ((([5] : List Nat)).map fun y => ((y : Nat) : Int)) := (.inr ⟨O87, 0, rfl, fun i hi => by
          match i, hi with
          | 0, _ => exact bO87_0.1
          | _ + 1, hi => exact absurd hi (by simp)⟩)
        refine wd_step 3 hR rfl (by kernel_rfl) (by kernel_rfl) (by kernel_rfl) (sn_call (f := 15) (args := #[.int .i64 12, .slice (some ⟨O87, 0, none⟩) 1 1]) (by kernel_rfl) ((strip_c (x := 12) (ys := [5]) _ (by decide) hI130 rfl (by decide) (by decide) (Ext.refl _)).mono ?_))
        rintro e w131 ⟨B127, rfl, hn128, hr129, hb⟩
        replace hE := hE.trans hb
        replace hX79 := hX79.trans hb
        replace bO87_0 := BoxAt.ext hb bO87_0
        replace bO122_0 := BoxAt.ext hb bO122_0
        replace bO122_1 := BoxAt.ext hb bO122_1
        have hs132 := hb.size
        clear hb
        have lt133 := hr129.lt
        have hS134 := And.intro ((BoxAt.ext (hY83.trans hX79) bO1_0).1) (And.intro ((BoxAt.ext (hY83.trans hX79) bO1_1).1) (And.intro ((BoxAt.ext (hY83.trans hX79) bO1_2).1) (And.intro ((BoxAt.ext (hY83.trans hX79) bO1_3).1) (And.intro ((BoxAt.ext (hY83.trans hX79) bO1_4).1) (And.intro ((BoxAt.ext (hY83.trans hX79) bO1_5).1) ((BoxAt.ext (hY83.trans hX79) bO1_6).1))))))
        refine ⟨_, rfl, hS134, ?_⟩
        refine wd_step 4 hR rfl (by kernel_rfl) (by kernel_rfl) (by kernel_rfl) (sn_call (f := 14) (args := #[.agg #[.int .i64 200, .int .i64 0, .int .i64 0, .int .i64 20000, .int .i64 10000, .int .i64 0, .int .i64 1], .agg #[.int .i64 0, .int .i64 60], .int .i64 10, .int .i64 3, .agg #[.slice (some ⟨B127, 0, none⟩) 24 24]]) (by kernel_rfl) ((Best_r (o := Swath.o0) (sp := Swath.sp0) (mi := 10) (W := 3) (bt := ((17, 27), 2, true)) _ _ (RowsAt.va hr129 (by kernel_rfl)).aa (Ext.refl _) rfl rfl rfl rfl (best_ex3)).mono ?_))
        rintro e w135 ⟨rfl, hb⟩
        replace hE := hE.trans hb
        replace hX79 := hX79.trans hb
        replace bO87_0 := BoxAt.ext hb bO87_0
        replace bO122_0 := BoxAt.ext hb bO122_0
        replace bO122_1 := BoxAt.ext hb bO122_1
        replace hr129 := hr129.ext hb
        have hs136 := hb.size
        clear hb
        have hS137 := And.intro ((BoxAt.ext (hY83.trans hX79) bO1_0).1) (And.intro ((BoxAt.ext (hY83.trans hX79) bO1_1).1) (And.intro ((BoxAt.ext (hY83.trans hX79) bO1_2).1) (And.intro ((BoxAt.ext (hY83.trans hX79) bO1_3).1) (And.intro ((BoxAt.ext (hY83.trans hX79) bO1_4).1) (And.intro ((BoxAt.ext (hY83.trans hX79) bO1_5).1) ((BoxAt.ext (hY83.trans hX79) bO1_6).1))))))
        refine ⟨_, rfl, hS137, ?_⟩
        refine wd_take 5 (.tuple #[.agg #[.int .i64 17, .int .i64 27], .int .i64 2, .bool true, .int .i64 0]) hR rfl (by kernel_rfl) rfl (by kernel_rfl) (fun w _ => by kernel_rfl) (hS137) ?_
        refine wd_take 6 (.agg #[.int .i64 17, .int .i64 27]) hR rfl (by kernel_rfl) rfl (by kernel_rfl) (fun w _ => by kernel_rfl) (hS137) ?_
        refine wd_take 7 (.int .i64 2) hR rfl (by kernel_rfl) rfl (by kernel_rfl) (fun w _ => by kernel_rfl) (hS137) ?_
        refine wd_take 8 (.bool true) hR rfl (by kernel_rfl) rfl (by kernel_rfl) (fun w _ => by kernel_rfl) (hS137) ?_
        refine wd_take 9 (.int .i64 0) hR rfl (by kernel_rfl) rfl (by kernel_rfl) (fun w _ => by kernel_rfl) (hS137) ?_
        refine wd_step 11 hR rfl (by kernel_rfl) (by kernel_rfl) (by kernel_rfl) (sn_set2 (O := O122) (j := 0) (v := .int .i64 17) (v' := .int .i64 27) (ex_store (p := .pointer (some ⟨O122, 0, none⟩)) (v := .agg #[.int .i64 17, .int .i64 27]) rfl (by kernel_rfl) (by kernel_rfl) (st29 bO122_0.1 bO122_0.2 bO122_1.1 bO122_1.2)) bO122_0 bO122_1 ?_)
        intro X138 ho hv0 hv1 hk
        replace hE := ho.ext hE (Nat.le_trans (Nat.le_trans hs3 (Nat.le_trans hs6 (Nat.le_trans hs10 (Nat.le_trans hs13 (Nat.le_trans hs19 (Nat.le_trans hs23 (Nat.le_trans hs26 (Nat.le_trans hs33 (Nat.le_trans hs37 (Nat.le_trans hs40 (Nat.le_trans hs48 (Nat.le_trans hs52 (Nat.le_trans hs55 (Nat.le_trans hs70 (Nat.le_trans hs75 (Nat.le_trans hs78 (Nat.le_trans hs85 hs89))))))))))))))))) (Nat.le_of_eq hzO122))
        replace hX79 := ho.ext hX79 (Nat.le_trans (Nat.le_trans hs85 hs89) (Nat.le_of_eq hzO122))
        replace bO87_0 := ho.box (Nat.ne_of_gt (Nat.lt_of_lt_of_le lt90 (Nat.le_of_eq hzO122))) bO87_0
        replace hr129 := ho.rows (Nat.ne_of_lt (Nat.lt_of_lt_of_le lt125 hn128)) hr129
        have hs139 : w135.heap.size ≤ X138.heap.size := Nat.le_of_eq ho.size.symm
        clear ho hk bO122_0 bO122_1
        have bO122_0 := hv0; clear hv0
        have bO122_1 := hv1; clear hv1
        have hS140 := And.intro ((BoxAt.ext (hY83.trans hX79) bO1_0).1) (And.intro ((BoxAt.ext (hY83.trans hX79) bO1_1).1) (And.intro ((BoxAt.ext (hY83.trans hX79) bO1_2).1) (And.intro ((BoxAt.ext (hY83.trans hX79) bO1_3).1) (And.intro ((BoxAt.ext (hY83.trans hX79) bO1_4).1) (And.intro ((BoxAt.ext (hY83.trans hX79) bO1_5).1) ((BoxAt.ext (hY83.trans hX79) bO1_6).1))))))
        refine ⟨hS140, ?_⟩
        refine wd_take 12 (.int .i64 2) hR rfl (by kernel_rfl) rfl (by kernel_rfl) (fun w _ => by kernel_rfl) (hS140) ?_
        refine wd_take 13 (.bool true) hR rfl (by kernel_rfl) rfl (by kernel_rfl) (fun w _ => by kernel_rfl) (hS140) ?_
        refine wd_take 14 (.int .i64 0) hR rfl (by kernel_rfl) rfl (by kernel_rfl) (fun w _ => by kernel_rfl) (hS140) ?_
        refine wd_end hL hR hK (by kernel_rfl) ?_
        exact qw_leaf hJ [1, 2, 3, 4, 5, 6, 7, 8, 9, 10, 11, 12, 13, 14] (ws' := [(1, .pointer (some ⟨O1, 0, none⟩)), (2, .pointer (some ⟨O8, 0, none⟩)), (3, .pointer (some ⟨O21, 0, none⟩)), (4, .int .i64 0), (5, .pointer (some ⟨O35, 0, none⟩)), (6, .int .i64 0), (7, .pointer (some ⟨O50, 0, none⟩)), (8, .int .i64 0), (9, .pointer (some ⟨O73, 0, none⟩)), (10, .int .i64 0), (11, .pointer (some ⟨O122, 0, none⟩)), (12, .int .i64 2), (13, .bool true), (14, .int .i64 0)]) (by kernel_rfl) ⟨O87, B127, O122, rfl, hE, hX79, bO87_0, hr129, bO122_0, bO122_1, (Nat.le_trans hs85 (Nat.le_trans hs89 (Nat.le_trans hs124 (Nat.le_trans hs132 (Nat.le_trans hs136 hs139))))), (Nat.le_trans hs85 (Nat.le_of_eq hzO87)), (Nat.le_trans (Nat.le_trans hs85 (Nat.le_trans hs89 hs124)) hn128), (Nat.le_trans (Nat.le_trans hs85 hs89) (Nat.le_of_eq hzO122)), Lib.hid (Nat.ne_of_lt (Nat.lt_of_lt_of_le lt90 (Nat.le_trans hs124 hn128))), Lib.hid (Nat.ne_of_lt (Nat.lt_of_lt_of_le lt90 (Nat.le_of_eq hzO122))), Lib.hid (Nat.ne_of_gt (Nat.lt_of_lt_of_le lt125 hn128))⟩
    ·
      refine sn_new (us := #[.int .i64 0, .int .i64 0]) (t := 29) (by kernel_rfl) ?_
      intro O141 X142 hO hOs hb hbx
      have hzO141 := hO; have hyO141 := hOs; clear hO hOs
      have bO141_0 : BoxAt X142 O141 0 (.int .i64 0) := hbx 0 _ rfl
      have bO141_1 : BoxAt X142 O141 1 (.int .i64 0) := hbx 1 _ rfl
      clear hbx
      replace hE := hE.trans hb
      replace hX79 := hX79.trans hb
      have hs143 := hb.size
      clear hb
      have lt144 := bO141_0.lt
      have hS145 := And.intro ((BoxAt.ext (hY83.trans hX79) bO1_0).1) (And.intro ((BoxAt.ext (hY83.trans hX79) bO1_1).1) (And.intro ((BoxAt.ext (hY83.trans hX79) bO1_2).1) (And.intro ((BoxAt.ext (hY83.trans hX79) bO1_3).1) (And.intro ((BoxAt.ext (hY83.trans hX79) bO1_4).1) (And.intro ((BoxAt.ext (hY83.trans hX79) bO1_5).1) ((BoxAt.ext (hY83.trans hX79) bO1_6).1))))))
      refine ⟨hS145, ?_⟩
      refine wd_step 2 hR rfl (by kernel_rfl) (by kernel_rfl) (by kernel_rfl) (sn_newS (us := #[.int .i64 5]) (t := 3) (k := 1) (c := 1) (by kernel_rfl) ?_)
      intro O146 X147 hO hOs hb hbx
      have hzO146 := hO; have hyO146 := hOs; clear hO hOs
      have bO146_0 : BoxAt X147 O146 0 (.int .i64 5) := hbx 0 _ rfl
      clear hbx
      replace hE := hE.trans hb
      replace hX79 := hX79.trans hb
      replace bO141_0 := BoxAt.ext hb bO141_0
      replace bO141_1 := BoxAt.ext hb bO141_1
      have hs148 := hb.size
      clear hb
      have lt149 := bO146_0.lt
      have hS150 := And.intro ((BoxAt.ext (hY83.trans hX79) bO1_0).1) (And.intro ((BoxAt.ext (hY83.trans hX79) bO1_1).1) (And.intro ((BoxAt.ext (hY83.trans hX79) bO1_2).1) (And.intro ((BoxAt.ext (hY83.trans hX79) bO1_3).1) (And.intro ((BoxAt.ext (hY83.trans hX79) bO1_4).1) (And.intro ((BoxAt.ext (hY83.trans hX79) bO1_5).1) ((BoxAt.ext (hY83.trans hX79) bO1_6).1))))))
      refine ⟨hS150, ?_⟩
      have hI154 : IntsAt X147 (some ⟨O146, 0, none⟩) ((([5] : List Nat)).map fun y => ((y : Nat) : Int)) := (.inr ⟨O146, 0, rfl, fun i hi => by
        match i, hi with
        | 0, _ => exact bO146_0.1
        | _ + 1, hi => exact absurd hi (by simp)⟩)
      refine wd_step 3 hR rfl (by kernel_rfl) (by kernel_rfl) (by kernel_rfl) (sn_call (f := 15) (args := #[.int .i64 12, .slice (some ⟨O146, 0, none⟩) 1 1]) (by kernel_rfl) ((strip_c (x := 12) (ys := [5]) _ (by decide) hI154 rfl (by decide) (by decide) (Ext.refl _)).mono ?_))
      rintro e w155 ⟨B151, rfl, hn152, hr153, hb⟩
      replace hE := hE.trans hb
      replace hX79 := hX79.trans hb
      replace bO141_0 := BoxAt.ext hb bO141_0
      replace bO141_1 := BoxAt.ext hb bO141_1
      replace bO146_0 := BoxAt.ext hb bO146_0
      have hs156 := hb.size
      clear hb
      have lt157 := hr153.lt
      have hS158 := And.intro ((BoxAt.ext (hY83.trans hX79) bO1_0).1) (And.intro ((BoxAt.ext (hY83.trans hX79) bO1_1).1) (And.intro ((BoxAt.ext (hY83.trans hX79) bO1_2).1) (And.intro ((BoxAt.ext (hY83.trans hX79) bO1_3).1) (And.intro ((BoxAt.ext (hY83.trans hX79) bO1_4).1) (And.intro ((BoxAt.ext (hY83.trans hX79) bO1_5).1) ((BoxAt.ext (hY83.trans hX79) bO1_6).1))))))
      refine ⟨_, rfl, hS158, ?_⟩
      refine wd_step 4 hR rfl (by kernel_rfl) (by kernel_rfl) (by kernel_rfl) (sn_call (f := 14) (args := #[.agg #[.int .i64 200, .int .i64 0, .int .i64 0, .int .i64 20000, .int .i64 10000, .int .i64 0, .int .i64 1], .agg #[.int .i64 0, .int .i64 60], .int .i64 10, .int .i64 3, .agg #[.slice (some ⟨B151, 0, none⟩) 24 24]]) (by kernel_rfl) ((Best_r (o := Swath.o0) (sp := Swath.sp0) (mi := 10) (W := 3) (bt := ((17, 27), 2, true)) _ _ (RowsAt.va hr153 (by kernel_rfl)).aa (Ext.refl _) rfl rfl rfl rfl (best_ex3)).mono ?_))
      rintro e w159 ⟨rfl, hb⟩
      replace hE := hE.trans hb
      replace hX79 := hX79.trans hb
      replace bO141_0 := BoxAt.ext hb bO141_0
      replace bO141_1 := BoxAt.ext hb bO141_1
      replace bO146_0 := BoxAt.ext hb bO146_0
      replace hr153 := hr153.ext hb
      have hs160 := hb.size
      clear hb
      have hS161 := And.intro ((BoxAt.ext (hY83.trans hX79) bO1_0).1) (And.intro ((BoxAt.ext (hY83.trans hX79) bO1_1).1) (And.intro ((BoxAt.ext (hY83.trans hX79) bO1_2).1) (And.intro ((BoxAt.ext (hY83.trans hX79) bO1_3).1) (And.intro ((BoxAt.ext (hY83.trans hX79) bO1_4).1) (And.intro ((BoxAt.ext (hY83.trans hX79) bO1_5).1) ((BoxAt.ext (hY83.trans hX79) bO1_6).1))))))
      refine ⟨_, rfl, hS161, ?_⟩
      refine wd_take 5 (.tuple #[.agg #[.int .i64 17, .int .i64 27], .int .i64 2, .bool true, .int .i64 0]) hR rfl (by kernel_rfl) rfl (by kernel_rfl) (fun w _ => by kernel_rfl) (hS161) ?_
      refine wd_take 6 (.agg #[.int .i64 17, .int .i64 27]) hR rfl (by kernel_rfl) rfl (by kernel_rfl) (fun w _ => by kernel_rfl) (hS161) ?_
      refine wd_take 7 (.int .i64 2) hR rfl (by kernel_rfl) rfl (by kernel_rfl) (fun w _ => by kernel_rfl) (hS161) ?_
      refine wd_take 8 (.bool true) hR rfl (by kernel_rfl) rfl (by kernel_rfl) (fun w _ => by kernel_rfl) (hS161) ?_
      refine wd_take 9 (.int .i64 0) hR rfl (by kernel_rfl) rfl (by kernel_rfl) (fun w _ => by kernel_rfl) (hS161) ?_
      refine wd_step 11 hR rfl (by kernel_rfl) (by kernel_rfl) (by kernel_rfl) (sn_set2 (O := O141) (j := 0) (v := .int .i64 17) (v' := .int .i64 27) (ex_store (p := .pointer (some ⟨O141, 0, none⟩)) (v := .agg #[.int .i64 17, .int .i64 27]) rfl (by kernel_rfl) (by kernel_rfl) (st29 bO141_0.1 bO141_0.2 bO141_1.1 bO141_1.2)) bO141_0 bO141_1 ?_)
      intro X162 ho hv0 hv1 hk
      replace hE := ho.ext hE (Nat.le_trans (Nat.le_trans hs3 (Nat.le_trans hs6 (Nat.le_trans hs10 (Nat.le_trans hs13 (Nat.le_trans hs19 (Nat.le_trans hs23 (Nat.le_trans hs26 (Nat.le_trans hs33 (Nat.le_trans hs37 (Nat.le_trans hs40 (Nat.le_trans hs48 (Nat.le_trans hs52 (Nat.le_trans hs55 (Nat.le_trans hs70 (Nat.le_trans hs75 (Nat.le_trans hs78 hs85)))))))))))))))) (Nat.le_of_eq hzO141))
      replace hX79 := ho.ext hX79 (Nat.le_trans hs85 (Nat.le_of_eq hzO141))
      replace bO146_0 := ho.box (Nat.ne_of_lt (Nat.lt_of_lt_of_le lt144 (Nat.le_of_eq hzO146))) bO146_0
      replace hr153 := ho.rows (Nat.ne_of_lt (Nat.lt_of_lt_of_le lt144 (Nat.le_trans hs148 hn152))) hr153
      have hs163 : w159.heap.size ≤ X162.heap.size := Nat.le_of_eq ho.size.symm
      clear ho hk bO141_0 bO141_1
      have bO141_0 := hv0; clear hv0
      have bO141_1 := hv1; clear hv1
      have hS164 := And.intro ((BoxAt.ext (hY83.trans hX79) bO1_0).1) (And.intro ((BoxAt.ext (hY83.trans hX79) bO1_1).1) (And.intro ((BoxAt.ext (hY83.trans hX79) bO1_2).1) (And.intro ((BoxAt.ext (hY83.trans hX79) bO1_3).1) (And.intro ((BoxAt.ext (hY83.trans hX79) bO1_4).1) (And.intro ((BoxAt.ext (hY83.trans hX79) bO1_5).1) ((BoxAt.ext (hY83.trans hX79) bO1_6).1))))))
      refine ⟨hS164, ?_⟩
      refine wd_take 12 (.int .i64 2) hR rfl (by kernel_rfl) rfl (by kernel_rfl) (fun w _ => by kernel_rfl) (hS164) ?_
      refine wd_take 13 (.bool true) hR rfl (by kernel_rfl) rfl (by kernel_rfl) (fun w _ => by kernel_rfl) (hS164) ?_
      refine wd_take 14 (.int .i64 0) hR rfl (by kernel_rfl) rfl (by kernel_rfl) (fun w _ => by kernel_rfl) (hS164) ?_
      refine wd_end hL hR hK (by kernel_rfl) ?_
      exact qw_leaf hJ [1, 2, 3, 4, 5, 6, 7, 8, 9, 10, 11, 12, 13, 14] (ws' := [(1, .pointer (some ⟨O1, 0, none⟩)), (2, .pointer (some ⟨O8, 0, none⟩)), (3, .pointer (some ⟨O21, 0, none⟩)), (4, .int .i64 0), (5, .pointer (some ⟨O35, 0, none⟩)), (6, .int .i64 0), (7, .pointer (some ⟨O50, 0, none⟩)), (8, .int .i64 0), (9, .pointer (some ⟨O73, 0, none⟩)), (10, .int .i64 0), (11, .pointer (some ⟨O141, 0, none⟩)), (12, .int .i64 2), (13, .bool true), (14, .int .i64 0)]) (by kernel_rfl) ⟨O146, B151, O141, rfl, hE, hX79, bO146_0, hr153, bO141_0, bO141_1, (Nat.le_trans hs85 (Nat.le_trans hs143 (Nat.le_trans hs148 (Nat.le_trans hs156 (Nat.le_trans hs160 hs163))))), (Nat.le_trans (Nat.le_trans hs85 hs143) (Nat.le_of_eq hzO146)), (Nat.le_trans (Nat.le_trans hs85 (Nat.le_trans hs143 hs148)) hn152), (Nat.le_trans hs85 (Nat.le_of_eq hzO141)), Lib.hid (Nat.ne_of_lt (Nat.lt_of_lt_of_le lt149 hn152)), Lib.hid (Nat.ne_of_gt (Nat.lt_of_lt_of_le lt144 (Nat.le_of_eq hzO146))), Lib.hid (Nat.ne_of_gt (Nat.lt_of_lt_of_le lt144 (Nat.le_trans hs148 hn152)))⟩
  ·
    clear hE hX79
    rintro L ws Y165 ⟨O87, B92, O103, rfl, hE, hX79, bO87_0, hr94, bO103_0, bO103_1, hn166, hn167, hn168, hn169, hn170, hn171, hn172⟩
    have lt173 := bO87_0.lt
    have lt174 := hr94.lt
    have lt175 := bO103_0.lt
    refine qw_then ?_
    refine cw_seq ?_
    have hX176 : Ext Y165 Y165 := Ext.refl _
    have hY177 := hX56.trans hX79
    have hY178 := hX41.trans hY177
    have hY179 := hX27.trans hY178
    have hY180 := hX14.trans hY179
    have hY181 := hX7.trans hY180
    refine cw_join (fun ws' Y => ∃ O185 : Nat, ∃ B190 : Nat, ∃ O201 : Nat, ws' = [(1, .pointer (some ⟨O1, 0, none⟩)), (2, .pointer (some ⟨O8, 0, none⟩)), (3, .pointer (some ⟨O21, 0, none⟩)), (4, .int .i64 0), (5, .pointer (some ⟨O35, 0, none⟩)), (6, .int .i64 0), (7, .pointer (some ⟨O50, 0, none⟩)), (8, .int .i64 0), (9, .pointer (some ⟨O73, 0, none⟩)), (10, .int .i64 0), (11, .pointer (some ⟨O103, 0, none⟩)), (12, .int .i64 2), (13, .bool true), (14, .int .i64 0), (17, .bool false), (18, .int .i64 0)] ∧ Ext w Y ∧ Ext Y165 Y ∧ BoxAt Y O185 0 (.int .i64 5) ∧ RowsAt Y B190 (Swath.stripL 12 [5]) ∧ BoxAt Y O201 0 (.int .i64 0) ∧ BoxAt Y O201 1 (.int .i64 0) ∧ Y165.heap.size ≤ Y.heap.size ∧ Y165.heap.size ≤ O185 ∧ Y165.heap.size ≤ B190 ∧ Y165.heap.size ≤ O201 ∧ Hid (O185 ≠ B190) ∧ Hid (O185 ≠ O201) ∧ Hid (B190 ≠ O201)) (fun hJ => ?_) ?_
    ·
      refine cw_draw [(some 63, [1], []), (some 64, [], []), (some 65, [], []), (some 66, [65], [2]), (some 67, [63, 64, 66], [0, 1, 3, 3]), (some 62, [67], [4]), (some 68, [62], [5]), (some 69, [62], [5]), (some 70, [62], [5]), (some 71, [62], [5]), (some 15, [], []), (none, [15, 68], [10, 6, 4, 0, 1, 2, 3, 4, 5, 6, 10]), (some 16, [69], [7, 11, 0, 1, 2, 3, 4, 5, 6, 7, 10, 11]), (some 17, [70], [8, 12, 0, 1, 2, 3, 4, 5, 6, 7, 8, 10, 11, 12]), (some 18, [71], [9, 13, 0, 1, 2, 3, 4, 5, 6, 7, 8, 9, 10, 11, 12, 13])] (fun w' => w'.cell? ⟨O1, 0, none⟩ = some (.int .i64 200) ∧ w'.cell? ⟨O1, 1, none⟩ = some (.int .i64 0) ∧ w'.cell? ⟨O1, 2, none⟩ = some (.int .i64 0) ∧ w'.cell? ⟨O1, 3, none⟩ = some (.int .i64 20000) ∧ w'.cell? ⟨O1, 4, none⟩ = some (.int .i64 10000) ∧ w'.cell? ⟨O1, 5, none⟩ = some (.int .i64 0) ∧ w'.cell? ⟨O1, 6, none⟩ = some (.int .i64 1)) (by kernel_rfl) (by kernel_rfl) (by kernel_rfl) (by kernel_rfl) ((calm_then calm_body)) (⟨(BoxAt.ext (hY181.trans hX176) bO1_0).1, (BoxAt.ext (hY181.trans hX176) bO1_1).1, (BoxAt.ext (hY181.trans hX176) bO1_2).1, (BoxAt.ext (hY181.trans hX176) bO1_3).1, (BoxAt.ext (hY181.trans hX176) bO1_4).1, (BoxAt.ext (hY181.trans hX176) bO1_5).1, (BoxAt.ext (hY181.trans hX176) bO1_6).1⟩) (fun ops Q X182 hb hL hR hK => ?_)
      replace hE := hE.trans hb
      replace hX176 := hX176.trans hb
      have hs183 := hb.size
      clear hb
      have hS184 := And.intro ((BoxAt.ext (hY181.trans hX176) bO1_0).1) (And.intro ((BoxAt.ext (hY181.trans hX176) bO1_1).1) (And.intro ((BoxAt.ext (hY181.trans hX176) bO1_2).1) (And.intro ((BoxAt.ext (hY181.trans hX176) bO1_3).1) (And.intro ((BoxAt.ext (hY181.trans hX176) bO1_4).1) (And.intro ((BoxAt.ext (hY181.trans hX176) bO1_5).1) ((BoxAt.ext (hY181.trans hX176) bO1_6).1))))))
      refine wd_take 0 (.agg #[.int .i64 200, .int .i64 0, .int .i64 0, .int .i64 20000, .int .i64 10000, .int .i64 0, .int .i64 1]) hR rfl (by kernel_rfl) rfl (by kernel_rfl) (fun w hS => ex_load rfl (by kernel_rfl) (ld26 (hS.1) (hS.2.1) (hS.2.2.1) (hS.2.2.2.1) (hS.2.2.2.2.1) (hS.2.2.2.2.2.1) (hS.2.2.2.2.2.2))) (hS184) ?_
      refine wd_take 1 (.agg #[.int .i64 0, .int .i64 60]) hR rfl (by kernel_rfl) rfl (by kernel_rfl) (fun w _ => by kernel_rfl) (hS184) ?_
      refine wd_two 2 10 hR rfl rfl (by kernel_rfl) (by kernel_rfl) (by kernel_rfl) (by kernel_rfl) ?_ ?_
      ·
        refine sn_newS (us := #[.int .i64 5]) (t := 3) (k := 1) (c := 1) (by kernel_rfl) ?_
        intro O185 X186 hO hOs hb hbx
        have hzO185 := hO; have hyO185 := hOs; clear hO hOs
        have bO185_0 : BoxAt X186 O185 0 (.int .i64 5) := hbx 0 _ rfl
        clear hbx
        replace hE := hE.trans hb
        replace hX176 := hX176.trans hb
        have hs187 := hb.size
        clear hb
        have lt188 := bO185_0.lt
        have hS189 := And.intro ((BoxAt.ext (hY181.trans hX176) bO1_0).1) (And.intro ((BoxAt.ext (hY181.trans hX176) bO1_1).1) (And.intro ((BoxAt.ext (hY181.trans hX176) bO1_2).1) (And.intro ((BoxAt.ext (hY181.trans hX176) bO1_3).1) (And.intro ((BoxAt.ext (hY181.trans hX176) bO1_4).1) (And.intro ((BoxAt.ext (hY181.trans hX176) bO1_5).1) ((BoxAt.ext (hY181.trans hX176) bO1_6).1))))))
        refine ⟨hS189, ?_⟩
        refine wd_two 3 10 hR rfl rfl (by kernel_rfl) (by kernel_rfl) (by kernel_rfl) (by kernel_rfl) ?_ ?_
        ·
          have hI193 : IntsAt X186 (some ⟨O185, 0, none⟩) ((([5] : List Nat)).map fun y => ((y : Nat) : Int)) := (.inr ⟨O185, 0, rfl, fun i hi => by
            match i, hi with
            | 0, _ => exact bO185_0.1
            | _ + 1, hi => exact absurd hi (by simp)⟩)
          refine sn_call (f := 15) (args := #[.int .i64 12, .slice (some ⟨O185, 0, none⟩) 1 1]) (by kernel_rfl) ((strip_c (x := 12) (ys := [5]) _ (by decide) hI193 rfl (by decide) (by decide) (Ext.refl _)).mono ?_)
          rintro e w194 ⟨B190, rfl, hn191, hr192, hb⟩
          replace hE := hE.trans hb
          replace hX176 := hX176.trans hb
          replace bO185_0 := BoxAt.ext hb bO185_0
          have hs195 := hb.size
          clear hb
          have lt196 := hr192.lt
          have hS197 := And.intro ((BoxAt.ext (hY181.trans hX176) bO1_0).1) (And.intro ((BoxAt.ext (hY181.trans hX176) bO1_1).1) (And.intro ((BoxAt.ext (hY181.trans hX176) bO1_2).1) (And.intro ((BoxAt.ext (hY181.trans hX176) bO1_3).1) (And.intro ((BoxAt.ext (hY181.trans hX176) bO1_4).1) (And.intro ((BoxAt.ext (hY181.trans hX176) bO1_5).1) ((BoxAt.ext (hY181.trans hX176) bO1_6).1))))))
          refine ⟨_, rfl, hS197, ?_⟩
          refine wd_two 4 10 hR rfl rfl (by kernel_rfl) (by kernel_rfl) (by kernel_rfl) (by kernel_rfl) ?_ ?_
          ·
            refine sn_call (f := 14) (args := #[.agg #[.int .i64 200, .int .i64 0, .int .i64 0, .int .i64 20000, .int .i64 10000, .int .i64 0, .int .i64 1], .agg #[.int .i64 0, .int .i64 60], .int .i64 10, .int .i64 1, .agg #[.slice (some ⟨B190, 0, none⟩) 24 24]]) (by kernel_rfl) ((Best_r (o := Swath.o0) (sp := Swath.sp0) (mi := 10) (W := 1) (bt := ((0, 0), 0, false)) _ _ (RowsAt.va hr192 (by kernel_rfl)).aa (Ext.refl _) rfl rfl rfl rfl (best_ex1)).mono ?_)
            rintro e w198 ⟨rfl, hb⟩
            replace hE := hE.trans hb
            replace hX176 := hX176.trans hb
            replace bO185_0 := BoxAt.ext hb bO185_0
            replace hr192 := hr192.ext hb
            have hs199 := hb.size
            clear hb
            have hS200 := And.intro ((BoxAt.ext (hY181.trans hX176) bO1_0).1) (And.intro ((BoxAt.ext (hY181.trans hX176) bO1_1).1) (And.intro ((BoxAt.ext (hY181.trans hX176) bO1_2).1) (And.intro ((BoxAt.ext (hY181.trans hX176) bO1_3).1) (And.intro ((BoxAt.ext (hY181.trans hX176) bO1_4).1) (And.intro ((BoxAt.ext (hY181.trans hX176) bO1_5).1) ((BoxAt.ext (hY181.trans hX176) bO1_6).1))))))
            refine ⟨_, rfl, hS200, ?_⟩
            refine wd_take 5 (.tuple #[.agg #[.int .i64 0, .int .i64 0], .int .i64 0, .bool false, .int .i64 0]) hR rfl (by kernel_rfl) rfl (by kernel_rfl) (fun w _ => by kernel_rfl) (hS200) ?_
            refine wd_take 6 (.agg #[.int .i64 0, .int .i64 0]) hR rfl (by kernel_rfl) rfl (by kernel_rfl) (fun w _ => by kernel_rfl) (hS200) ?_
            refine wd_take 7 (.int .i64 0) hR rfl (by kernel_rfl) rfl (by kernel_rfl) (fun w _ => by kernel_rfl) (hS200) ?_
            refine wd_take 8 (.bool false) hR rfl (by kernel_rfl) rfl (by kernel_rfl) (fun w _ => by kernel_rfl) (hS200) ?_
            refine wd_take 9 (.int .i64 0) hR rfl (by kernel_rfl) rfl (by kernel_rfl) (fun w _ => by kernel_rfl) (hS200) ?_
            refine wd_step 10 hR rfl (by kernel_rfl) (by kernel_rfl) (by kernel_rfl) (sn_new (us := #[.int .i64 0, .int .i64 0]) (t := 29) (by kernel_rfl) ?_)
            intro O201 X202 hO hOs hb hbx
            have hzO201 := hO; have hyO201 := hOs; clear hO hOs
            have bO201_0 : BoxAt X202 O201 0 (.int .i64 0) := hbx 0 _ rfl
            have bO201_1 : BoxAt X202 O201 1 (.int .i64 0) := hbx 1 _ rfl
            clear hbx
            replace hE := hE.trans hb
            replace hX176 := hX176.trans hb
            replace bO185_0 := BoxAt.ext hb bO185_0
            replace hr192 := hr192.ext hb
            have hs203 := hb.size
            clear hb
            have lt204 := bO201_0.lt
            have hS205 := And.intro ((BoxAt.ext (hY181.trans hX176) bO1_0).1) (And.intro ((BoxAt.ext (hY181.trans hX176) bO1_1).1) (And.intro ((BoxAt.ext (hY181.trans hX176) bO1_2).1) (And.intro ((BoxAt.ext (hY181.trans hX176) bO1_3).1) (And.intro ((BoxAt.ext (hY181.trans hX176) bO1_4).1) (And.intro ((BoxAt.ext (hY181.trans hX176) bO1_5).1) ((BoxAt.ext (hY181.trans hX176) bO1_6).1))))))
            refine ⟨hS205, ?_⟩
            refine wd_step 11 hR rfl (by kernel_rfl) (by kernel_rfl) (by kernel_rfl) (sn_set2 (O := O201) (j := 0) (v := .int .i64 0) (v' := .int .i64 0) (ex_store (p := .pointer (some ⟨O201, 0, none⟩)) (v := .agg #[.int .i64 0, .int .i64 0]) rfl (by kernel_rfl) (by kernel_rfl) (st29 bO201_0.1 bO201_0.2 bO201_1.1 bO201_1.2)) bO201_0 bO201_1 ?_)
            intro X206 ho hv0 hv1 hk
            replace hE := ho.ext hE (Nat.le_trans (Nat.le_trans hs3 (Nat.le_trans hs6 (Nat.le_trans hs10 (Nat.le_trans hs13 (Nat.le_trans hs19 (Nat.le_trans hs23 (Nat.le_trans hs26 (Nat.le_trans hs33 (Nat.le_trans hs37 (Nat.le_trans hs40 (Nat.le_trans hs48 (Nat.le_trans hs52 (Nat.le_trans hs55 (Nat.le_trans hs70 (Nat.le_trans hs75 (Nat.le_trans hs78 (Nat.le_trans hn166 (Nat.le_trans hs183 (Nat.le_trans hs187 (Nat.le_trans hs195 hs199)))))))))))))))))))) (Nat.le_of_eq hzO201))
            replace hX176 := ho.ext hX176 (Nat.le_trans (Nat.le_trans hs183 (Nat.le_trans hs187 (Nat.le_trans hs195 hs199))) (Nat.le_of_eq hzO201))
            replace bO185_0 := ho.box (Nat.ne_of_gt (Nat.lt_of_lt_of_le lt188 (Nat.le_trans (Nat.le_trans hs195 hs199) (Nat.le_of_eq hzO201)))) bO185_0
            replace hr192 := ho.rows (Nat.ne_of_gt (Nat.lt_of_lt_of_le lt196 (Nat.le_trans hs199 (Nat.le_of_eq hzO201)))) hr192
            have hs207 : X202.heap.size ≤ X206.heap.size := Nat.le_of_eq ho.size.symm
            clear ho hk bO201_0 bO201_1
            have bO201_0 := hv0; clear hv0
            have bO201_1 := hv1; clear hv1
            have hS208 := And.intro ((BoxAt.ext (hY181.trans hX176) bO1_0).1) (And.intro ((BoxAt.ext (hY181.trans hX176) bO1_1).1) (And.intro ((BoxAt.ext (hY181.trans hX176) bO1_2).1) (And.intro ((BoxAt.ext (hY181.trans hX176) bO1_3).1) (And.intro ((BoxAt.ext (hY181.trans hX176) bO1_4).1) (And.intro ((BoxAt.ext (hY181.trans hX176) bO1_5).1) ((BoxAt.ext (hY181.trans hX176) bO1_6).1))))))
            refine ⟨hS208, ?_⟩
            refine wd_take 12 (.int .i64 0) hR rfl (by kernel_rfl) rfl (by kernel_rfl) (fun w _ => by kernel_rfl) (hS208) ?_
            refine wd_take 13 (.bool false) hR rfl (by kernel_rfl) rfl (by kernel_rfl) (fun w _ => by kernel_rfl) (hS208) ?_
            refine wd_take 14 (.int .i64 0) hR rfl (by kernel_rfl) rfl (by kernel_rfl) (fun w _ => by kernel_rfl) (hS208) ?_
            refine wd_end hL hR hK (by kernel_rfl) ?_
            exact qw_leaf hJ [1, 2, 3, 4, 5, 6, 7, 8, 9, 10, 11, 12, 13, 14, 17, 18] (ws' := [(1, .pointer (some ⟨O1, 0, none⟩)), (2, .pointer (some ⟨O8, 0, none⟩)), (3, .pointer (some ⟨O21, 0, none⟩)), (4, .int .i64 0), (5, .pointer (some ⟨O35, 0, none⟩)), (6, .int .i64 0), (7, .pointer (some ⟨O50, 0, none⟩)), (8, .int .i64 0), (9, .pointer (some ⟨O73, 0, none⟩)), (10, .int .i64 0), (11, .pointer (some ⟨O103, 0, none⟩)), (12, .int .i64 2), (13, .bool true), (14, .int .i64 0), (17, .bool false), (18, .int .i64 0)]) (by kernel_rfl) ⟨O185, B190, O201, rfl, hE, hX176, bO185_0, hr192, bO201_0, bO201_1, (Nat.le_trans hs183 (Nat.le_trans hs187 (Nat.le_trans hs195 (Nat.le_trans hs199 (Nat.le_trans hs203 hs207))))), (Nat.le_trans hs183 (Nat.le_of_eq hzO185)), (Nat.le_trans (Nat.le_trans hs183 hs187) hn191), (Nat.le_trans (Nat.le_trans hs183 (Nat.le_trans hs187 (Nat.le_trans hs195 hs199))) (Nat.le_of_eq hzO201)), Lib.hid (Nat.ne_of_lt (Nat.lt_of_lt_of_le lt188 hn191)), Lib.hid (Nat.ne_of_lt (Nat.lt_of_lt_of_le lt188 (Nat.le_trans (Nat.le_trans hs195 hs199) (Nat.le_of_eq hzO201)))), Lib.hid (Nat.ne_of_lt (Nat.lt_of_lt_of_le lt196 (Nat.le_trans hs199 (Nat.le_of_eq hzO201))))⟩
          ·
            refine sn_new (us := #[.int .i64 0, .int .i64 0]) (t := 29) (by kernel_rfl) ?_
            intro O209 X210 hO hOs hb hbx
            have hzO209 := hO; have hyO209 := hOs; clear hO hOs
            have bO209_0 : BoxAt X210 O209 0 (.int .i64 0) := hbx 0 _ rfl
            have bO209_1 : BoxAt X210 O209 1 (.int .i64 0) := hbx 1 _ rfl
            clear hbx
            replace hE := hE.trans hb
            replace hX176 := hX176.trans hb
            replace bO185_0 := BoxAt.ext hb bO185_0
            replace hr192 := hr192.ext hb
            have hs211 := hb.size
            clear hb
            have lt212 := bO209_0.lt
            have hS213 := And.intro ((BoxAt.ext (hY181.trans hX176) bO1_0).1) (And.intro ((BoxAt.ext (hY181.trans hX176) bO1_1).1) (And.intro ((BoxAt.ext (hY181.trans hX176) bO1_2).1) (And.intro ((BoxAt.ext (hY181.trans hX176) bO1_3).1) (And.intro ((BoxAt.ext (hY181.trans hX176) bO1_4).1) (And.intro ((BoxAt.ext (hY181.trans hX176) bO1_5).1) ((BoxAt.ext (hY181.trans hX176) bO1_6).1))))))
            refine ⟨hS213, ?_⟩
            refine wd_step 4 hR rfl (by kernel_rfl) (by kernel_rfl) (by kernel_rfl) (sn_call (f := 14) (args := #[.agg #[.int .i64 200, .int .i64 0, .int .i64 0, .int .i64 20000, .int .i64 10000, .int .i64 0, .int .i64 1], .agg #[.int .i64 0, .int .i64 60], .int .i64 10, .int .i64 1, .agg #[.slice (some ⟨B190, 0, none⟩) 24 24]]) (by kernel_rfl) ((Best_r (o := Swath.o0) (sp := Swath.sp0) (mi := 10) (W := 1) (bt := ((0, 0), 0, false)) _ _ (RowsAt.va hr192 (by kernel_rfl)).aa (Ext.refl _) rfl rfl rfl rfl (best_ex1)).mono ?_))
            rintro e w214 ⟨rfl, hb⟩
            replace hE := hE.trans hb
            replace hX176 := hX176.trans hb
            replace bO185_0 := BoxAt.ext hb bO185_0
            replace hr192 := hr192.ext hb
            replace bO209_0 := BoxAt.ext hb bO209_0
            replace bO209_1 := BoxAt.ext hb bO209_1
            have hs215 := hb.size
            clear hb
            have hS216 := And.intro ((BoxAt.ext (hY181.trans hX176) bO1_0).1) (And.intro ((BoxAt.ext (hY181.trans hX176) bO1_1).1) (And.intro ((BoxAt.ext (hY181.trans hX176) bO1_2).1) (And.intro ((BoxAt.ext (hY181.trans hX176) bO1_3).1) (And.intro ((BoxAt.ext (hY181.trans hX176) bO1_4).1) (And.intro ((BoxAt.ext (hY181.trans hX176) bO1_5).1) ((BoxAt.ext (hY181.trans hX176) bO1_6).1))))))
            refine ⟨_, rfl, hS216, ?_⟩
            refine wd_take 5 (.tuple #[.agg #[.int .i64 0, .int .i64 0], .int .i64 0, .bool false, .int .i64 0]) hR rfl (by kernel_rfl) rfl (by kernel_rfl) (fun w _ => by kernel_rfl) (hS216) ?_
            refine wd_take 6 (.agg #[.int .i64 0, .int .i64 0]) hR rfl (by kernel_rfl) rfl (by kernel_rfl) (fun w _ => by kernel_rfl) (hS216) ?_
            refine wd_take 7 (.int .i64 0) hR rfl (by kernel_rfl) rfl (by kernel_rfl) (fun w _ => by kernel_rfl) (hS216) ?_
            refine wd_take 8 (.bool false) hR rfl (by kernel_rfl) rfl (by kernel_rfl) (fun w _ => by kernel_rfl) (hS216) ?_
            refine wd_take 9 (.int .i64 0) hR rfl (by kernel_rfl) rfl (by kernel_rfl) (fun w _ => by kernel_rfl) (hS216) ?_
            refine wd_step 11 hR rfl (by kernel_rfl) (by kernel_rfl) (by kernel_rfl) (sn_set2 (O := O209) (j := 0) (v := .int .i64 0) (v' := .int .i64 0) (ex_store (p := .pointer (some ⟨O209, 0, none⟩)) (v := .agg #[.int .i64 0, .int .i64 0]) rfl (by kernel_rfl) (by kernel_rfl) (st29 bO209_0.1 bO209_0.2 bO209_1.1 bO209_1.2)) bO209_0 bO209_1 ?_)
            intro X217 ho hv0 hv1 hk
            replace hE := ho.ext hE (Nat.le_trans (Nat.le_trans hs3 (Nat.le_trans hs6 (Nat.le_trans hs10 (Nat.le_trans hs13 (Nat.le_trans hs19 (Nat.le_trans hs23 (Nat.le_trans hs26 (Nat.le_trans hs33 (Nat.le_trans hs37 (Nat.le_trans hs40 (Nat.le_trans hs48 (Nat.le_trans hs52 (Nat.le_trans hs55 (Nat.le_trans hs70 (Nat.le_trans hs75 (Nat.le_trans hs78 (Nat.le_trans hn166 (Nat.le_trans hs183 (Nat.le_trans hs187 hs195))))))))))))))))))) (Nat.le_of_eq hzO209))
            replace hX176 := ho.ext hX176 (Nat.le_trans (Nat.le_trans hs183 (Nat.le_trans hs187 hs195)) (Nat.le_of_eq hzO209))
            replace bO185_0 := ho.box (Nat.ne_of_gt (Nat.lt_of_lt_of_le lt188 (Nat.le_trans hs195 (Nat.le_of_eq hzO209)))) bO185_0
            replace hr192 := ho.rows (Nat.ne_of_gt (Nat.lt_of_lt_of_le lt196 (Nat.le_of_eq hzO209))) hr192
            have hs218 : w214.heap.size ≤ X217.heap.size := Nat.le_of_eq ho.size.symm
            clear ho hk bO209_0 bO209_1
            have bO209_0 := hv0; clear hv0
            have bO209_1 := hv1; clear hv1
            have hS219 := And.intro ((BoxAt.ext (hY181.trans hX176) bO1_0).1) (And.intro ((BoxAt.ext (hY181.trans hX176) bO1_1).1) (And.intro ((BoxAt.ext (hY181.trans hX176) bO1_2).1) (And.intro ((BoxAt.ext (hY181.trans hX176) bO1_3).1) (And.intro ((BoxAt.ext (hY181.trans hX176) bO1_4).1) (And.intro ((BoxAt.ext (hY181.trans hX176) bO1_5).1) ((BoxAt.ext (hY181.trans hX176) bO1_6).1))))))
            refine ⟨hS219, ?_⟩
            refine wd_take 12 (.int .i64 0) hR rfl (by kernel_rfl) rfl (by kernel_rfl) (fun w _ => by kernel_rfl) (hS219) ?_
            refine wd_take 13 (.bool false) hR rfl (by kernel_rfl) rfl (by kernel_rfl) (fun w _ => by kernel_rfl) (hS219) ?_
            refine wd_take 14 (.int .i64 0) hR rfl (by kernel_rfl) rfl (by kernel_rfl) (fun w _ => by kernel_rfl) (hS219) ?_
            refine wd_end hL hR hK (by kernel_rfl) ?_
            exact qw_leaf hJ [1, 2, 3, 4, 5, 6, 7, 8, 9, 10, 11, 12, 13, 14, 17, 18] (ws' := [(1, .pointer (some ⟨O1, 0, none⟩)), (2, .pointer (some ⟨O8, 0, none⟩)), (3, .pointer (some ⟨O21, 0, none⟩)), (4, .int .i64 0), (5, .pointer (some ⟨O35, 0, none⟩)), (6, .int .i64 0), (7, .pointer (some ⟨O50, 0, none⟩)), (8, .int .i64 0), (9, .pointer (some ⟨O73, 0, none⟩)), (10, .int .i64 0), (11, .pointer (some ⟨O103, 0, none⟩)), (12, .int .i64 2), (13, .bool true), (14, .int .i64 0), (17, .bool false), (18, .int .i64 0)]) (by kernel_rfl) ⟨O185, B190, O209, rfl, hE, hX176, bO185_0, hr192, bO209_0, bO209_1, (Nat.le_trans hs183 (Nat.le_trans hs187 (Nat.le_trans hs195 (Nat.le_trans hs211 (Nat.le_trans hs215 hs218))))), (Nat.le_trans hs183 (Nat.le_of_eq hzO185)), (Nat.le_trans (Nat.le_trans hs183 hs187) hn191), (Nat.le_trans (Nat.le_trans hs183 (Nat.le_trans hs187 hs195)) (Nat.le_of_eq hzO209)), Lib.hid (Nat.ne_of_lt (Nat.lt_of_lt_of_le lt188 hn191)), Lib.hid (Nat.ne_of_lt (Nat.lt_of_lt_of_le lt188 (Nat.le_trans hs195 (Nat.le_of_eq hzO209)))), Lib.hid (Nat.ne_of_lt (Nat.lt_of_lt_of_le lt196 (Nat.le_of_eq hzO209)))⟩
        ·
          refine sn_new (us := #[.int .i64 0, .int .i64 0]) (t := 29) (by kernel_rfl) ?_
          intro O220 X221 hO hOs hb hbx
          have hzO220 := hO; have hyO220 := hOs; clear hO hOs
          have bO220_0 : BoxAt X221 O220 0 (.int .i64 0) := hbx 0 _ rfl
          have bO220_1 : BoxAt X221 O220 1 (.int .i64 0) := hbx 1 _ rfl
          clear hbx
          replace hE := hE.trans hb
          replace hX176 := hX176.trans hb
          replace bO185_0 := BoxAt.ext hb bO185_0
          have hs222 := hb.size
          clear hb
          have lt223 := bO220_0.lt
          have hS224 := And.intro ((BoxAt.ext (hY181.trans hX176) bO1_0).1) (And.intro ((BoxAt.ext (hY181.trans hX176) bO1_1).1) (And.intro ((BoxAt.ext (hY181.trans hX176) bO1_2).1) (And.intro ((BoxAt.ext (hY181.trans hX176) bO1_3).1) (And.intro ((BoxAt.ext (hY181.trans hX176) bO1_4).1) (And.intro ((BoxAt.ext (hY181.trans hX176) bO1_5).1) ((BoxAt.ext (hY181.trans hX176) bO1_6).1))))))
          refine ⟨hS224, ?_⟩
          have hI228 : IntsAt X221 (some ⟨O185, 0, none⟩) ((([5] : List Nat)).map fun y => ((y : Nat) : Int)) := (.inr ⟨O185, 0, rfl, fun i hi => by
            match i, hi with
            | 0, _ => exact bO185_0.1
            | _ + 1, hi => exact absurd hi (by simp)⟩)
          refine wd_step 3 hR rfl (by kernel_rfl) (by kernel_rfl) (by kernel_rfl) (sn_call (f := 15) (args := #[.int .i64 12, .slice (some ⟨O185, 0, none⟩) 1 1]) (by kernel_rfl) ((strip_c (x := 12) (ys := [5]) _ (by decide) hI228 rfl (by decide) (by decide) (Ext.refl _)).mono ?_))
          rintro e w229 ⟨B225, rfl, hn226, hr227, hb⟩
          replace hE := hE.trans hb
          replace hX176 := hX176.trans hb
          replace bO185_0 := BoxAt.ext hb bO185_0
          replace bO220_0 := BoxAt.ext hb bO220_0
          replace bO220_1 := BoxAt.ext hb bO220_1
          have hs230 := hb.size
          clear hb
          have lt231 := hr227.lt
          have hS232 := And.intro ((BoxAt.ext (hY181.trans hX176) bO1_0).1) (And.intro ((BoxAt.ext (hY181.trans hX176) bO1_1).1) (And.intro ((BoxAt.ext (hY181.trans hX176) bO1_2).1) (And.intro ((BoxAt.ext (hY181.trans hX176) bO1_3).1) (And.intro ((BoxAt.ext (hY181.trans hX176) bO1_4).1) (And.intro ((BoxAt.ext (hY181.trans hX176) bO1_5).1) ((BoxAt.ext (hY181.trans hX176) bO1_6).1))))))
          refine ⟨_, rfl, hS232, ?_⟩
          refine wd_step 4 hR rfl (by kernel_rfl) (by kernel_rfl) (by kernel_rfl) (sn_call (f := 14) (args := #[.agg #[.int .i64 200, .int .i64 0, .int .i64 0, .int .i64 20000, .int .i64 10000, .int .i64 0, .int .i64 1], .agg #[.int .i64 0, .int .i64 60], .int .i64 10, .int .i64 1, .agg #[.slice (some ⟨B225, 0, none⟩) 24 24]]) (by kernel_rfl) ((Best_r (o := Swath.o0) (sp := Swath.sp0) (mi := 10) (W := 1) (bt := ((0, 0), 0, false)) _ _ (RowsAt.va hr227 (by kernel_rfl)).aa (Ext.refl _) rfl rfl rfl rfl (best_ex1)).mono ?_))
          rintro e w233 ⟨rfl, hb⟩
          replace hE := hE.trans hb
          replace hX176 := hX176.trans hb
          replace bO185_0 := BoxAt.ext hb bO185_0
          replace bO220_0 := BoxAt.ext hb bO220_0
          replace bO220_1 := BoxAt.ext hb bO220_1
          replace hr227 := hr227.ext hb
          have hs234 := hb.size
          clear hb
          have hS235 := And.intro ((BoxAt.ext (hY181.trans hX176) bO1_0).1) (And.intro ((BoxAt.ext (hY181.trans hX176) bO1_1).1) (And.intro ((BoxAt.ext (hY181.trans hX176) bO1_2).1) (And.intro ((BoxAt.ext (hY181.trans hX176) bO1_3).1) (And.intro ((BoxAt.ext (hY181.trans hX176) bO1_4).1) (And.intro ((BoxAt.ext (hY181.trans hX176) bO1_5).1) ((BoxAt.ext (hY181.trans hX176) bO1_6).1))))))
          refine ⟨_, rfl, hS235, ?_⟩
          refine wd_take 5 (.tuple #[.agg #[.int .i64 0, .int .i64 0], .int .i64 0, .bool false, .int .i64 0]) hR rfl (by kernel_rfl) rfl (by kernel_rfl) (fun w _ => by kernel_rfl) (hS235) ?_
          refine wd_take 6 (.agg #[.int .i64 0, .int .i64 0]) hR rfl (by kernel_rfl) rfl (by kernel_rfl) (fun w _ => by kernel_rfl) (hS235) ?_
          refine wd_take 7 (.int .i64 0) hR rfl (by kernel_rfl) rfl (by kernel_rfl) (fun w _ => by kernel_rfl) (hS235) ?_
          refine wd_take 8 (.bool false) hR rfl (by kernel_rfl) rfl (by kernel_rfl) (fun w _ => by kernel_rfl) (hS235) ?_
          refine wd_take 9 (.int .i64 0) hR rfl (by kernel_rfl) rfl (by kernel_rfl) (fun w _ => by kernel_rfl) (hS235) ?_
          refine wd_step 11 hR rfl (by kernel_rfl) (by kernel_rfl) (by kernel_rfl) (sn_set2 (O := O220) (j := 0) (v := .int .i64 0) (v' := .int .i64 0) (ex_store (p := .pointer (some ⟨O220, 0, none⟩)) (v := .agg #[.int .i64 0, .int .i64 0]) rfl (by kernel_rfl) (by kernel_rfl) (st29 bO220_0.1 bO220_0.2 bO220_1.1 bO220_1.2)) bO220_0 bO220_1 ?_)
          intro X236 ho hv0 hv1 hk
          replace hE := ho.ext hE (Nat.le_trans (Nat.le_trans hs3 (Nat.le_trans hs6 (Nat.le_trans hs10 (Nat.le_trans hs13 (Nat.le_trans hs19 (Nat.le_trans hs23 (Nat.le_trans hs26 (Nat.le_trans hs33 (Nat.le_trans hs37 (Nat.le_trans hs40 (Nat.le_trans hs48 (Nat.le_trans hs52 (Nat.le_trans hs55 (Nat.le_trans hs70 (Nat.le_trans hs75 (Nat.le_trans hs78 (Nat.le_trans hn166 (Nat.le_trans hs183 hs187)))))))))))))))))) (Nat.le_of_eq hzO220))
          replace hX176 := ho.ext hX176 (Nat.le_trans (Nat.le_trans hs183 hs187) (Nat.le_of_eq hzO220))
          replace bO185_0 := ho.box (Nat.ne_of_gt (Nat.lt_of_lt_of_le lt188 (Nat.le_of_eq hzO220))) bO185_0
          replace hr227 := ho.rows (Nat.ne_of_lt (Nat.lt_of_lt_of_le lt223 hn226)) hr227
          have hs237 : w233.heap.size ≤ X236.heap.size := Nat.le_of_eq ho.size.symm
          clear ho hk bO220_0 bO220_1
          have bO220_0 := hv0; clear hv0
          have bO220_1 := hv1; clear hv1
          have hS238 := And.intro ((BoxAt.ext (hY181.trans hX176) bO1_0).1) (And.intro ((BoxAt.ext (hY181.trans hX176) bO1_1).1) (And.intro ((BoxAt.ext (hY181.trans hX176) bO1_2).1) (And.intro ((BoxAt.ext (hY181.trans hX176) bO1_3).1) (And.intro ((BoxAt.ext (hY181.trans hX176) bO1_4).1) (And.intro ((BoxAt.ext (hY181.trans hX176) bO1_5).1) ((BoxAt.ext (hY181.trans hX176) bO1_6).1))))))
          refine ⟨hS238, ?_⟩
          refine wd_take 12 (.int .i64 0) hR rfl (by kernel_rfl) rfl (by kernel_rfl) (fun w _ => by kernel_rfl) (hS238) ?_
          refine wd_take 13 (.bool false) hR rfl (by kernel_rfl) rfl (by kernel_rfl) (fun w _ => by kernel_rfl) (hS238) ?_
          refine wd_take 14 (.int .i64 0) hR rfl (by kernel_rfl) rfl (by kernel_rfl) (fun w _ => by kernel_rfl) (hS238) ?_
          refine wd_end hL hR hK (by kernel_rfl) ?_
          exact qw_leaf hJ [1, 2, 3, 4, 5, 6, 7, 8, 9, 10, 11, 12, 13, 14, 17, 18] (ws' := [(1, .pointer (some ⟨O1, 0, none⟩)), (2, .pointer (some ⟨O8, 0, none⟩)), (3, .pointer (some ⟨O21, 0, none⟩)), (4, .int .i64 0), (5, .pointer (some ⟨O35, 0, none⟩)), (6, .int .i64 0), (7, .pointer (some ⟨O50, 0, none⟩)), (8, .int .i64 0), (9, .pointer (some ⟨O73, 0, none⟩)), (10, .int .i64 0), (11, .pointer (some ⟨O103, 0, none⟩)), (12, .int .i64 2), (13, .bool true), (14, .int .i64 0), (17, .bool false), (18, .int .i64 0)]) (by kernel_rfl) ⟨O185, B225, O220, rfl, hE, hX176, bO185_0, hr227, bO220_0, bO220_1, (Nat.le_trans hs183 (Nat.le_trans hs187 (Nat.le_trans hs222 (Nat.le_trans hs230 (Nat.le_trans hs234 hs237))))), (Nat.le_trans hs183 (Nat.le_of_eq hzO185)), (Nat.le_trans (Nat.le_trans hs183 (Nat.le_trans hs187 hs222)) hn226), (Nat.le_trans (Nat.le_trans hs183 hs187) (Nat.le_of_eq hzO220)), Lib.hid (Nat.ne_of_lt (Nat.lt_of_lt_of_le lt188 (Nat.le_trans hs222 hn226))), Lib.hid (Nat.ne_of_lt (Nat.lt_of_lt_of_le lt188 (Nat.le_of_eq hzO220))), Lib.hid (Nat.ne_of_gt (Nat.lt_of_lt_of_le lt223 hn226))⟩
      ·
        refine sn_new (us := #[.int .i64 0, .int .i64 0]) (t := 29) (by kernel_rfl) ?_
        intro O239 X240 hO hOs hb hbx
        have hzO239 := hO; have hyO239 := hOs; clear hO hOs
        have bO239_0 : BoxAt X240 O239 0 (.int .i64 0) := hbx 0 _ rfl
        have bO239_1 : BoxAt X240 O239 1 (.int .i64 0) := hbx 1 _ rfl
        clear hbx
        replace hE := hE.trans hb
        replace hX176 := hX176.trans hb
        have hs241 := hb.size
        clear hb
        have lt242 := bO239_0.lt
        have hS243 := And.intro ((BoxAt.ext (hY181.trans hX176) bO1_0).1) (And.intro ((BoxAt.ext (hY181.trans hX176) bO1_1).1) (And.intro ((BoxAt.ext (hY181.trans hX176) bO1_2).1) (And.intro ((BoxAt.ext (hY181.trans hX176) bO1_3).1) (And.intro ((BoxAt.ext (hY181.trans hX176) bO1_4).1) (And.intro ((BoxAt.ext (hY181.trans hX176) bO1_5).1) ((BoxAt.ext (hY181.trans hX176) bO1_6).1))))))
        refine ⟨hS243, ?_⟩
        refine wd_step 2 hR rfl (by kernel_rfl) (by kernel_rfl) (by kernel_rfl) (sn_newS (us := #[.int .i64 5]) (t := 3) (k := 1) (c := 1) (by kernel_rfl) ?_)
        intro O244 X245 hO hOs hb hbx
        have hzO244 := hO; have hyO244 := hOs; clear hO hOs
        have bO244_0 : BoxAt X245 O244 0 (.int .i64 5) := hbx 0 _ rfl
        clear hbx
        replace hE := hE.trans hb
        replace hX176 := hX176.trans hb
        replace bO239_0 := BoxAt.ext hb bO239_0
        replace bO239_1 := BoxAt.ext hb bO239_1
        have hs246 := hb.size
        clear hb
        have lt247 := bO244_0.lt
        have hS248 := And.intro ((BoxAt.ext (hY181.trans hX176) bO1_0).1) (And.intro ((BoxAt.ext (hY181.trans hX176) bO1_1).1) (And.intro ((BoxAt.ext (hY181.trans hX176) bO1_2).1) (And.intro ((BoxAt.ext (hY181.trans hX176) bO1_3).1) (And.intro ((BoxAt.ext (hY181.trans hX176) bO1_4).1) (And.intro ((BoxAt.ext (hY181.trans hX176) bO1_5).1) ((BoxAt.ext (hY181.trans hX176) bO1_6).1))))))
        refine ⟨hS248, ?_⟩
        have hI252 : IntsAt X245 (some ⟨O244, 0, none⟩) ((([5] : List Nat)).map fun y => ((y : Nat) : Int)) := (.inr ⟨O244, 0, rfl, fun i hi => by
          match i, hi with
          | 0, _ => exact bO244_0.1
          | _ + 1, hi => exact absurd hi (by simp)⟩)
        refine wd_step 3 hR rfl (by kernel_rfl) (by kernel_rfl) (by kernel_rfl) (sn_call (f := 15) (args := #[.int .i64 12, .slice (some ⟨O244, 0, none⟩) 1 1]) (by kernel_rfl) ((strip_c (x := 12) (ys := [5]) _ (by decide) hI252 rfl (by decide) (by decide) (Ext.refl _)).mono ?_))
        rintro e w253 ⟨B249, rfl, hn250, hr251, hb⟩
        replace hE := hE.trans hb
        replace hX176 := hX176.trans hb
        replace bO239_0 := BoxAt.ext hb bO239_0
        replace bO239_1 := BoxAt.ext hb bO239_1
        replace bO244_0 := BoxAt.ext hb bO244_0
        have hs254 := hb.size
        clear hb
        have lt255 := hr251.lt
        have hS256 := And.intro ((BoxAt.ext (hY181.trans hX176) bO1_0).1) (And.intro ((BoxAt.ext (hY181.trans hX176) bO1_1).1) (And.intro ((BoxAt.ext (hY181.trans hX176) bO1_2).1) (And.intro ((BoxAt.ext (hY181.trans hX176) bO1_3).1) (And.intro ((BoxAt.ext (hY181.trans hX176) bO1_4).1) (And.intro ((BoxAt.ext (hY181.trans hX176) bO1_5).1) ((BoxAt.ext (hY181.trans hX176) bO1_6).1))))))
        refine ⟨_, rfl, hS256, ?_⟩
        refine wd_step 4 hR rfl (by kernel_rfl) (by kernel_rfl) (by kernel_rfl) (sn_call (f := 14) (args := #[.agg #[.int .i64 200, .int .i64 0, .int .i64 0, .int .i64 20000, .int .i64 10000, .int .i64 0, .int .i64 1], .agg #[.int .i64 0, .int .i64 60], .int .i64 10, .int .i64 1, .agg #[.slice (some ⟨B249, 0, none⟩) 24 24]]) (by kernel_rfl) ((Best_r (o := Swath.o0) (sp := Swath.sp0) (mi := 10) (W := 1) (bt := ((0, 0), 0, false)) _ _ (RowsAt.va hr251 (by kernel_rfl)).aa (Ext.refl _) rfl rfl rfl rfl (best_ex1)).mono ?_))
        rintro e w257 ⟨rfl, hb⟩
        replace hE := hE.trans hb
        replace hX176 := hX176.trans hb
        replace bO239_0 := BoxAt.ext hb bO239_0
        replace bO239_1 := BoxAt.ext hb bO239_1
        replace bO244_0 := BoxAt.ext hb bO244_0
        replace hr251 := hr251.ext hb
        have hs258 := hb.size
        clear hb
        have hS259 := And.intro ((BoxAt.ext (hY181.trans hX176) bO1_0).1) (And.intro ((BoxAt.ext (hY181.trans hX176) bO1_1).1) (And.intro ((BoxAt.ext (hY181.trans hX176) bO1_2).1) (And.intro ((BoxAt.ext (hY181.trans hX176) bO1_3).1) (And.intro ((BoxAt.ext (hY181.trans hX176) bO1_4).1) (And.intro ((BoxAt.ext (hY181.trans hX176) bO1_5).1) ((BoxAt.ext (hY181.trans hX176) bO1_6).1))))))
        refine ⟨_, rfl, hS259, ?_⟩
        refine wd_take 5 (.tuple #[.agg #[.int .i64 0, .int .i64 0], .int .i64 0, .bool false, .int .i64 0]) hR rfl (by kernel_rfl) rfl (by kernel_rfl) (fun w _ => by kernel_rfl) (hS259) ?_
        refine wd_take 6 (.agg #[.int .i64 0, .int .i64 0]) hR rfl (by kernel_rfl) rfl (by kernel_rfl) (fun w _ => by kernel_rfl) (hS259) ?_
        refine wd_take 7 (.int .i64 0) hR rfl (by kernel_rfl) rfl (by kernel_rfl) (fun w _ => by kernel_rfl) (hS259) ?_
        refine wd_take 8 (.bool false) hR rfl (by kernel_rfl) rfl (by kernel_rfl) (fun w _ => by kernel_rfl) (hS259) ?_
        refine wd_take 9 (.int .i64 0) hR rfl (by kernel_rfl) rfl (by kernel_rfl) (fun w _ => by kernel_rfl) (hS259) ?_
        refine wd_step 11 hR rfl (by kernel_rfl) (by kernel_rfl) (by kernel_rfl) (sn_set2 (O := O239) (j := 0) (v := .int .i64 0) (v' := .int .i64 0) (ex_store (p := .pointer (some ⟨O239, 0, none⟩)) (v := .agg #[.int .i64 0, .int .i64 0]) rfl (by kernel_rfl) (by kernel_rfl) (st29 bO239_0.1 bO239_0.2 bO239_1.1 bO239_1.2)) bO239_0 bO239_1 ?_)
        intro X260 ho hv0 hv1 hk
        replace hE := ho.ext hE (Nat.le_trans (Nat.le_trans hs3 (Nat.le_trans hs6 (Nat.le_trans hs10 (Nat.le_trans hs13 (Nat.le_trans hs19 (Nat.le_trans hs23 (Nat.le_trans hs26 (Nat.le_trans hs33 (Nat.le_trans hs37 (Nat.le_trans hs40 (Nat.le_trans hs48 (Nat.le_trans hs52 (Nat.le_trans hs55 (Nat.le_trans hs70 (Nat.le_trans hs75 (Nat.le_trans hs78 (Nat.le_trans hn166 hs183))))))))))))))))) (Nat.le_of_eq hzO239))
        replace hX176 := ho.ext hX176 (Nat.le_trans hs183 (Nat.le_of_eq hzO239))
        replace bO244_0 := ho.box (Nat.ne_of_lt (Nat.lt_of_lt_of_le lt242 (Nat.le_of_eq hzO244))) bO244_0
        replace hr251 := ho.rows (Nat.ne_of_lt (Nat.lt_of_lt_of_le lt242 (Nat.le_trans hs246 hn250))) hr251
        have hs261 : w257.heap.size ≤ X260.heap.size := Nat.le_of_eq ho.size.symm
        clear ho hk bO239_0 bO239_1
        have bO239_0 := hv0; clear hv0
        have bO239_1 := hv1; clear hv1
        have hS262 := And.intro ((BoxAt.ext (hY181.trans hX176) bO1_0).1) (And.intro ((BoxAt.ext (hY181.trans hX176) bO1_1).1) (And.intro ((BoxAt.ext (hY181.trans hX176) bO1_2).1) (And.intro ((BoxAt.ext (hY181.trans hX176) bO1_3).1) (And.intro ((BoxAt.ext (hY181.trans hX176) bO1_4).1) (And.intro ((BoxAt.ext (hY181.trans hX176) bO1_5).1) ((BoxAt.ext (hY181.trans hX176) bO1_6).1))))))
        refine ⟨hS262, ?_⟩
        refine wd_take 12 (.int .i64 0) hR rfl (by kernel_rfl) rfl (by kernel_rfl) (fun w _ => by kernel_rfl) (hS262) ?_
        refine wd_take 13 (.bool false) hR rfl (by kernel_rfl) rfl (by kernel_rfl) (fun w _ => by kernel_rfl) (hS262) ?_
        refine wd_take 14 (.int .i64 0) hR rfl (by kernel_rfl) rfl (by kernel_rfl) (fun w _ => by kernel_rfl) (hS262) ?_
        refine wd_end hL hR hK (by kernel_rfl) ?_
        exact qw_leaf hJ [1, 2, 3, 4, 5, 6, 7, 8, 9, 10, 11, 12, 13, 14, 17, 18] (ws' := [(1, .pointer (some ⟨O1, 0, none⟩)), (2, .pointer (some ⟨O8, 0, none⟩)), (3, .pointer (some ⟨O21, 0, none⟩)), (4, .int .i64 0), (5, .pointer (some ⟨O35, 0, none⟩)), (6, .int .i64 0), (7, .pointer (some ⟨O50, 0, none⟩)), (8, .int .i64 0), (9, .pointer (some ⟨O73, 0, none⟩)), (10, .int .i64 0), (11, .pointer (some ⟨O103, 0, none⟩)), (12, .int .i64 2), (13, .bool true), (14, .int .i64 0), (17, .bool false), (18, .int .i64 0)]) (by kernel_rfl) ⟨O244, B249, O239, rfl, hE, hX176, bO244_0, hr251, bO239_0, bO239_1, (Nat.le_trans hs183 (Nat.le_trans hs241 (Nat.le_trans hs246 (Nat.le_trans hs254 (Nat.le_trans hs258 hs261))))), (Nat.le_trans (Nat.le_trans hs183 hs241) (Nat.le_of_eq hzO244)), (Nat.le_trans (Nat.le_trans hs183 (Nat.le_trans hs241 hs246)) hn250), (Nat.le_trans hs183 (Nat.le_of_eq hzO239)), Lib.hid (Nat.ne_of_lt (Nat.lt_of_lt_of_le lt247 hn250)), Lib.hid (Nat.ne_of_gt (Nat.lt_of_lt_of_le lt242 (Nat.le_of_eq hzO244))), Lib.hid (Nat.ne_of_gt (Nat.lt_of_lt_of_le lt242 (Nat.le_trans hs246 hn250)))⟩
    ·
      clear hE hX176
      rintro L ws Y263 ⟨O185, B190, O201, rfl, hE, hX176, bO185_0, hr192, bO201_0, bO201_1, hn264, hn265, hn266, hn267, hn268, hn269, hn270⟩
      have lt271 := bO185_0.lt
      have lt272 := hr192.lt
      have lt273 := bO201_0.lt
      refine qw_then ?_
      refine cw_clean [1, 2, 3, 4, 5, 6, 7, 8, 9, 10, 11, 12, 13, 14, 17, 18] (ws' := [(1, .pointer (some ⟨O1, 0, none⟩)), (2, .pointer (some ⟨O8, 0, none⟩)), (3, .pointer (some ⟨O21, 0, none⟩)), (4, .int .i64 0), (5, .pointer (some ⟨O35, 0, none⟩)), (6, .int .i64 0), (7, .pointer (some ⟨O50, 0, none⟩)), (8, .int .i64 0), (9, .pointer (some ⟨O73, 0, none⟩)), (10, .int .i64 0), (11, .pointer (some ⟨O103, 0, none⟩)), (12, .int .i64 2), (13, .bool true), (14, .int .i64 0), (17, .bool false), (18, .int .i64 0)]) (by kernel_rfl) (fun L => ?_)
      refine cw_seq ?_
      have hX274 : Ext Y263 Y263 := Ext.refl _
      refine cw_plain ?_
      have hY275 := hX79.trans hX176
      have hY276 := hX56.trans hY275
      have hY277 := hX41.trans hY276
      have hY278 := hX27.trans hY277
      have hY279 := hX14.trans hY278
      have hY280 := hX7.trans hY279
      refine pl_take (.agg #[.int .i64 200, .int .i64 0, .int .i64 0, .int .i64 20000, .int .i64 10000, .int .i64 0, .int .i64 1]) rfl (by kernel_rfl) (by kernel_rfl) (by kernel_rfl) (ex_load rfl (by kernel_rfl) (ld26 ((BoxAt.ext (hY280.trans hX274) bO1_0).1) ((BoxAt.ext (hY280.trans hX274) bO1_1).1) ((BoxAt.ext (hY280.trans hX274) bO1_2).1) ((BoxAt.ext (hY280.trans hX274) bO1_3).1) ((BoxAt.ext (hY280.trans hX274) bO1_4).1) ((BoxAt.ext (hY280.trans hX274) bO1_5).1) ((BoxAt.ext (hY280.trans hX274) bO1_6).1))) ?_
      refine pl_take (.agg #[.int .i64 10, .int .i64 20]) rfl (by kernel_rfl) (by kernel_rfl) (by kernel_rfl) (ex_load rfl (by kernel_rfl) (ld29 ((BoxAt.ext (hY279.trans hX274) bO8_0).1) ((BoxAt.ext (hY279.trans hX274) bO8_1).1))) ?_
      refine pl_step rfl (by kernel_rfl) (by kernel_rfl) (by kernel_rfl) (sn_call (f := 16) (args := #[.agg #[.int .i64 200, .int .i64 0, .int .i64 0, .int .i64 20000, .int .i64 10000, .int .i64 0, .int .i64 1], .agg #[.int .i64 10, .int .i64 20], .int .i64 2]) (by kernel_rfl) ((Suns_y (o := Swath.o0) (s := Swath.s0) (lk := 2) _ (by kernel_rfl)).mono ?_))
      rintro e w281 ⟨rfl, hb⟩
      replace hE := hE.trans hb
      replace hX274 := hX274.trans hb
      have hs282 := hb.size
      clear hb
      refine ⟨_, rfl, ?_⟩
      refine pl_take (.tuple #[.int .i64 ((Swath.suns Swath.o0 Swath.s0 2).1 : Int), .int .i64 ((Swath.suns Swath.o0 Swath.s0 2).2 : Int), .int .i64 0]) rfl (by kernel_rfl) (by kernel_rfl) (by kernel_rfl) (by kernel_rfl) ?_
      refine pl_take (.int .i64 ((Swath.suns Swath.o0 Swath.s0 2).1 : Int)) rfl (by kernel_rfl) (by kernel_rfl) (by kernel_rfl) (by kernel_rfl) ?_
      refine pl_take (.int .i64 ((Swath.suns Swath.o0 Swath.s0 2).2 : Int)) rfl (by kernel_rfl) (by kernel_rfl) (by kernel_rfl) (by kernel_rfl) ?_
      refine pl_take (.int .i64 0) rfl (by kernel_rfl) (by kernel_rfl) (by kernel_rfl) (by kernel_rfl) ?_
      refine pl_take (.int .i64 ((Swath.suns Swath.o0 Swath.s0 2).1 : Int)) rfl (by kernel_rfl) (by kernel_rfl) (by kernel_rfl) (by kernel_rfl) ?_
      refine pl_take (.int .i64 ((Swath.suns Swath.o0 Swath.s0 2).2 : Int)) rfl (by kernel_rfl) (by kernel_rfl) (by kernel_rfl) (by kernel_rfl) ?_
      refine pl_take (.int .i64 0) rfl (by kernel_rfl) (by kernel_rfl) (by kernel_rfl) (by kernel_rfl) ?_
      refine pl_nil ?_
      refine qw_then ?_
      refine cw_clean [1, 2, 3, 4, 5, 6, 7, 8, 9, 10, 11, 12, 13, 14, 17, 18, 19, 20, 21] (ws' := [(1, .pointer (some ⟨O1, 0, none⟩)), (2, .pointer (some ⟨O8, 0, none⟩)), (3, .pointer (some ⟨O21, 0, none⟩)), (4, .int .i64 0), (5, .pointer (some ⟨O35, 0, none⟩)), (6, .int .i64 0), (7, .pointer (some ⟨O50, 0, none⟩)), (8, .int .i64 0), (9, .pointer (some ⟨O73, 0, none⟩)), (10, .int .i64 0), (11, .pointer (some ⟨O103, 0, none⟩)), (12, .int .i64 2), (13, .bool true), (14, .int .i64 0), (17, .bool false), (18, .int .i64 0), (19, .int .i64 ((Swath.suns Swath.o0 Swath.s0 2).1 : Int)), (20, .int .i64 ((Swath.suns Swath.o0 Swath.s0 2).2 : Int)), (21, .int .i64 0)]) (by kernel_rfl) (fun L => ?_)
      refine cw_seq ?_
      have hX283 : Ext w281 w281 := Ext.refl _
      refine cw_plain ?_
      have hY284 := hX176.trans hX274
      have hY285 := hX79.trans hY284
      have hY286 := hX56.trans hY285
      have hY287 := hX41.trans hY286
      have hY288 := hX27.trans hY287
      have hY289 := hX14.trans hY288
      have hY290 := hX7.trans hY289
      refine pl_take (.agg #[.int .i64 200, .int .i64 0, .int .i64 0, .int .i64 20000, .int .i64 10000, .int .i64 0, .int .i64 1]) rfl (by kernel_rfl) (by kernel_rfl) (by kernel_rfl) (ex_load rfl (by kernel_rfl) (ld26 ((BoxAt.ext (hY290.trans hX283) bO1_0).1) ((BoxAt.ext (hY290.trans hX283) bO1_1).1) ((BoxAt.ext (hY290.trans hX283) bO1_2).1) ((BoxAt.ext (hY290.trans hX283) bO1_3).1) ((BoxAt.ext (hY290.trans hX283) bO1_4).1) ((BoxAt.ext (hY290.trans hX283) bO1_5).1) ((BoxAt.ext (hY290.trans hX283) bO1_6).1))) ?_
      refine pl_take (.agg #[.int .i64 10, .int .i64 20]) rfl (by kernel_rfl) (by kernel_rfl) (by kernel_rfl) (ex_load rfl (by kernel_rfl) (ld29 ((BoxAt.ext (hY289.trans hX283) bO8_0).1) ((BoxAt.ext (hY289.trans hX283) bO8_1).1))) ?_
      refine pl_step rfl (by kernel_rfl) (by kernel_rfl) (by kernel_rfl) (sn_call (f := 9) (args := #[.agg #[.int .i64 200, .int .i64 0, .int .i64 0, .int .i64 20000, .int .i64 10000, .int .i64 0, .int .i64 1], .agg #[.int .i64 10, .int .i64 20], .int .i64 0, .int .i64 2]) (by kernel_rfl) ((Shown_n (o := Swath.o0) (s := Swath.s0) (lk := 0) (d := 2) _ (by kernel_rfl)).mono ?_))
      rintro e w291 ⟨rfl, hb⟩
      replace hE := hE.trans hb
      replace hX283 := hX283.trans hb
      have hs292 := hb.size
      clear hb
      refine ⟨_, rfl, ?_⟩
      refine pl_take (.tuple #[.agg #[.slice none 0 0], .int .i64 80]) rfl (by kernel_rfl) (by kernel_rfl) (by kernel_rfl) (by kernel_rfl) ?_
      refine pl_take (.agg #[.slice none 0 0]) rfl (by kernel_rfl) (by kernel_rfl) (by kernel_rfl) (by kernel_rfl) ?_
      refine pl_take (.int .i64 80) rfl (by kernel_rfl) (by kernel_rfl) (by kernel_rfl) (by kernel_rfl) ?_
      refine pl_step rfl (by kernel_rfl) (by kernel_rfl) (by kernel_rfl) (sn_new (us := #[.slice none 0 0]) (t := 39) (by kernel_rfl) ?_)
      intro O293 X294 hO hOs hb hbx
      have hzO293 := hO; have hyO293 := hOs; clear hO hOs
      have bO293_0 : BoxAt X294 O293 0 (.slice none 0 0) := hbx 0 _ rfl
      clear hbx
      replace hE := hE.trans hb
      replace hX283 := hX283.trans hb
      have hs295 := hb.size
      clear hb
      have lt296 := bO293_0.lt
      refine pl_put rfl (by kernel_rfl) (by kernel_rfl) (sn_set (O := O293) (j := 0) (v := .slice none 0 0) (ex_store (p := .pointer (some ⟨O293, 0, none⟩)) (v := .agg #[.slice none 0 0]) rfl (by kernel_rfl) (by kernel_rfl) (st39 bO293_0.1 bO293_0.2)) bO293_0 ?_)
      intro X297 ho hv0 hk
      replace hE := ho.ext hE (Nat.le_trans (Nat.le_trans hs3 (Nat.le_trans hs6 (Nat.le_trans hs10 (Nat.le_trans hs13 (Nat.le_trans hs19 (Nat.le_trans hs23 (Nat.le_trans hs26 (Nat.le_trans hs33 (Nat.le_trans hs37 (Nat.le_trans hs40 (Nat.le_trans hs48 (Nat.le_trans hs52 (Nat.le_trans hs55 (Nat.le_trans hs70 (Nat.le_trans hs75 (Nat.le_trans hs78 (Nat.le_trans hn166 (Nat.le_trans hn264 (Nat.le_trans hs282 hs292))))))))))))))))))) (Nat.le_of_eq hzO293))
      replace hX283 := ho.ext hX283 (Nat.le_trans hs292 (Nat.le_of_eq hzO293))
      have hs298 : X294.heap.size ≤ X297.heap.size := Nat.le_of_eq ho.size.symm
      clear ho hk bO293_0
      have bO293_0 := hv0; clear hv0
      refine pl_take (.int .i64 80) rfl (by kernel_rfl) (by kernel_rfl) (by kernel_rfl) (by kernel_rfl) ?_
      refine pl_nil ?_
      refine qw_then ?_
      refine cw_clean [1, 2, 3, 4, 5, 6, 7, 8, 9, 10, 11, 12, 13, 14, 17, 18, 19, 20, 21, 23] (ws' := [(1, .pointer (some ⟨O1, 0, none⟩)), (2, .pointer (some ⟨O8, 0, none⟩)), (3, .pointer (some ⟨O21, 0, none⟩)), (4, .int .i64 0), (5, .pointer (some ⟨O35, 0, none⟩)), (6, .int .i64 0), (7, .pointer (some ⟨O50, 0, none⟩)), (8, .int .i64 0), (9, .pointer (some ⟨O73, 0, none⟩)), (10, .int .i64 0), (11, .pointer (some ⟨O103, 0, none⟩)), (12, .int .i64 2), (13, .bool true), (14, .int .i64 0), (17, .bool false), (18, .int .i64 0), (19, .int .i64 ((Swath.suns Swath.o0 Swath.s0 2).1 : Int)), (20, .int .i64 ((Swath.suns Swath.o0 Swath.s0 2).2 : Int)), (21, .int .i64 0), (23, .int .i64 80)]) (by kernel_rfl) (fun L => ?_)
      refine cw_seq ?_
      refine cw_seq ?_
      refine cw_plain ?_
      refine pl_take (.int .i64 0) rfl (by kernel_rfl) (by kernel_rfl) (by kernel_rfl) (by kernel_rfl) ?_
      refine pl_take (.bool false) rfl (by kernel_rfl) (by kernel_rfl) (by kernel_rfl) (by kernel_rfl) ?_
      refine pl_take (.bool false) rfl (by kernel_rfl) (by kernel_rfl) (by kernel_rfl) (by kernel_rfl) ?_
      refine pl_take (.int .i64 0) rfl (by kernel_rfl) (by kernel_rfl) (by kernel_rfl) (by kernel_rfl) ?_
      refine pl_take (.bool false) rfl (by kernel_rfl) (by kernel_rfl) (by kernel_rfl) (by kernel_rfl) ?_
      refine pl_take (.bool false) rfl (by kernel_rfl) (by kernel_rfl) (by kernel_rfl) (by kernel_rfl) ?_
      refine pl_take (.bool false) rfl (by kernel_rfl) (by kernel_rfl) (by kernel_rfl) (by kernel_rfl) ?_
      refine pl_take (.int .i64 0) rfl (by kernel_rfl) (by kernel_rfl) (by kernel_rfl) (by kernel_rfl) ?_
      refine pl_take (.bool false) rfl (by kernel_rfl) (by kernel_rfl) (by kernel_rfl) (by kernel_rfl) ?_
      refine pl_take (.bool false) rfl (by kernel_rfl) (by kernel_rfl) (by kernel_rfl) (by kernel_rfl) ?_
      refine pl_take (.bool false) rfl (by kernel_rfl) (by kernel_rfl) (by kernel_rfl) (by kernel_rfl) ?_
      refine pl_take (.int .i64 0) rfl (by kernel_rfl) (by kernel_rfl) (by kernel_rfl) (by kernel_rfl) ?_
      refine pl_take (.bool false) rfl (by kernel_rfl) (by kernel_rfl) (by kernel_rfl) (by kernel_rfl) ?_
      refine pl_take (.bool false) rfl (by kernel_rfl) (by kernel_rfl) (by kernel_rfl) (by kernel_rfl) ?_
      refine pl_take (.bool false) rfl (by kernel_rfl) (by kernel_rfl) (by kernel_rfl) (by kernel_rfl) ?_
      refine pl_take (.int .i64 0) rfl (by kernel_rfl) (by kernel_rfl) (by kernel_rfl) (by kernel_rfl) ?_
      refine pl_take (.bool false) rfl (by kernel_rfl) (by kernel_rfl) (by kernel_rfl) (by kernel_rfl) ?_
      refine pl_take (.bool false) rfl (by kernel_rfl) (by kernel_rfl) (by kernel_rfl) (by kernel_rfl) ?_
      refine pl_take (.bool false) rfl (by kernel_rfl) (by kernel_rfl) (by kernel_rfl) (by kernel_rfl) ?_
      refine pl_take (.int .i64 0) rfl (by kernel_rfl) (by kernel_rfl) (by kernel_rfl) (by kernel_rfl) ?_
      refine pl_take (.bool false) rfl (by kernel_rfl) (by kernel_rfl) (by kernel_rfl) (by kernel_rfl) ?_
      refine pl_take (.bool false) rfl (by kernel_rfl) (by kernel_rfl) (by kernel_rfl) (by kernel_rfl) ?_
      refine pl_take (.bool false) rfl (by kernel_rfl) (by kernel_rfl) (by kernel_rfl) (by kernel_rfl) ?_
      refine pl_take (.int .i64 0) rfl (by kernel_rfl) (by kernel_rfl) (by kernel_rfl) (by kernel_rfl) ?_
      refine pl_take (.bool false) rfl (by kernel_rfl) (by kernel_rfl) (by kernel_rfl) (by kernel_rfl) ?_
      refine pl_take (.bool false) rfl (by kernel_rfl) (by kernel_rfl) (by kernel_rfl) (by kernel_rfl) ?_
      refine pl_take (.bool false) rfl (by kernel_rfl) (by kernel_rfl) (by kernel_rfl) (by kernel_rfl) ?_
      refine pl_take (.int .i64 80) rfl (by kernel_rfl) (by kernel_rfl) (by kernel_rfl) (by kernel_rfl) ?_
      refine pl_take (.bool false) rfl (by kernel_rfl) (by kernel_rfl) (by kernel_rfl) (by kernel_rfl) ?_
      refine pl_take (.bool false) rfl (by kernel_rfl) (by kernel_rfl) (by kernel_rfl) (by kernel_rfl) ?_
      refine pl_nil ?_
      refine qw_then ?_
      refine cw_clean [1, 2, 3, 5, 7, 9, 11, 12, 13, 17, 19, 20, 114] (ws' := [(1, .pointer (some ⟨O1, 0, none⟩)), (2, .pointer (some ⟨O8, 0, none⟩)), (3, .pointer (some ⟨O21, 0, none⟩)), (5, .pointer (some ⟨O35, 0, none⟩)), (7, .pointer (some ⟨O50, 0, none⟩)), (9, .pointer (some ⟨O73, 0, none⟩)), (11, .pointer (some ⟨O103, 0, none⟩)), (12, .int .i64 2), (13, .bool true), (17, .bool false), (19, .int .i64 ((Swath.suns Swath.o0 Swath.s0 2).1 : Int)), (20, .int .i64 ((Swath.suns Swath.o0 Swath.s0 2).2 : Int)), (114, .bool false)]) (by kernel_rfl) (fun L => ?_)
      refine cw_f (by kernel_rfl) ?_
      refine cw_skip ?_
      refine qw_then ?_
      refine cw_seq ?_
      have hX299 : Ext X297 X297 := Ext.refl _
      have hY300 := hX274.trans hX283
      have hY301 := hX176.trans hY300
      have hY302 := hX79.trans hY301
      have hY303 := hX56.trans hY302
      have hY304 := hX41.trans hY303
      have hY305 := hX27.trans hY304
      refine cw_draw [(some 115, [3], []), (some 116, [], []), (some 117, [116], [1]), (some 118, [115, 117], [0, 2, 2]), (some 119, [118], [3, 3]), (some 120, [5, 119], [4]), (some 121, [119], [4]), (some 122, [121, 119], [6, 4, 4]), (some 123, [120, 122, 119], [5, 7, 7, 4]), (some 124, [119, 123], [4, 8]), (some 125, [124], [9, 8]), (some 126, [7, 125], [10]), (some 127, [125], [10]), (some 128, [127, 125], [12, 10, 10]), (some 129, [126, 128, 125], [11, 13, 13, 10]), (some 130, [125, 129], [10, 14]), (some 24, [130], [15, 14, 0, 1, 2, 3, 4, 5, 6, 7, 8, 9, 10, 11, 12, 13, 14, 15])] (fun w' => w'.cell? ⟨O21, 0, none⟩ = some (.slice (some ⟨B15, 0, none⟩) 24 24) ∧ w'.cell? ⟨O35, 0, none⟩ = some (.slice (some ⟨B29, 0, none⟩) 24 24) ∧ w'.cell? ⟨O50, 0, none⟩ = some (.slice (some ⟨B44, 0, none⟩) 24 24)) (by kernel_rfl) (by kernel_rfl) (by kernel_rfl) (by kernel_rfl) ((calm_then calm_body)) (⟨(BoxAt.ext (hY305.trans hX299) bO21_0).1, (BoxAt.ext (hY304.trans hX299) bO35_0).1, (BoxAt.ext (hY303.trans hX299) bO50_0).1⟩) (fun ops Q X306 hb hL hR hK => ?_)
      replace hE := hE.trans hb
      replace hX299 := hX299.trans hb
      have hs307 := hb.size
      clear hb
      have hS308 := And.intro ((BoxAt.ext (hY305.trans hX299) bO21_0).1) (And.intro ((BoxAt.ext (hY304.trans hX299) bO35_0).1) ((BoxAt.ext (hY303.trans hX299) bO50_0).1))
      refine wd_take 0 (.agg #[.slice (some ⟨B15, 0, none⟩) 24 24]) hR rfl (by kernel_rfl) rfl (by kernel_rfl) (fun w hS => ex_load rfl (by kernel_rfl) (ld39 (hS.1))) (hS308) ?_
      refine wd_step 1 hR rfl (by kernel_rfl) (by kernel_rfl) (by kernel_rfl) (sn_newS (us := #[.int .i64 2, .int .i64 3]) (t := 3) (k := 2) (c := 2) (by kernel_rfl) ?_)
      intro O309 X310 hO hOs hb hbx
      have hzO309 := hO; have hyO309 := hOs; clear hO hOs
      have bO309_0 : BoxAt X310 O309 0 (.int .i64 2) := hbx 0 _ rfl
      have bO309_1 : BoxAt X310 O309 1 (.int .i64 3) := hbx 1 _ rfl
      clear hbx
      replace hE := hE.trans hb
      replace hX299 := hX299.trans hb
      have hs311 := hb.size
      clear hb
      have lt312 := bO309_0.lt
      have hS313 := And.intro ((BoxAt.ext (hY305.trans hX299) bO21_0).1) (And.intro ((BoxAt.ext (hY304.trans hX299) bO35_0).1) ((BoxAt.ext (hY303.trans hX299) bO50_0).1))
      refine ⟨hS313, ?_⟩
      have hI317 : IntsAt X310 (some ⟨O309, 0, none⟩) ((([2, 3] : List Nat)).map fun y => ((y : Nat) : Int)) := (.inr ⟨O309, 0, rfl, fun i hi => by
        match i, hi with
        | 0, _ => exact bO309_0.1
        | 1, _ => exact bO309_1.1
        | _ + 2, hi => exact absurd hi (by simp)⟩)
      refine wd_step 2 hR rfl (by kernel_rfl) (by kernel_rfl) (by kernel_rfl) (sn_call (f := 15) (args := #[.int .i64 10, .slice (some ⟨O309, 0, none⟩) 2 2]) (by kernel_rfl) ((strip_c (x := 10) (ys := [2, 3]) _ (by decide) hI317 rfl (by decide) (by decide) (Ext.refl _)).mono ?_))
      rintro e w318 ⟨B314, rfl, hn315, hr316, hb⟩
      replace hE := hE.trans hb
      replace hX299 := hX299.trans hb
      replace bO309_0 := BoxAt.ext hb bO309_0
      replace bO309_1 := BoxAt.ext hb bO309_1
      have hs319 := hb.size
      clear hb
      have lt320 := hr316.lt
      have hS321 := And.intro ((BoxAt.ext (hY305.trans hX299) bO21_0).1) (And.intro ((BoxAt.ext (hY304.trans hX299) bO35_0).1) ((BoxAt.ext (hY303.trans hX299) bO50_0).1))
      refine ⟨_, rfl, hS321, ?_⟩
      refine wd_step 3 hR rfl (by kernel_rfl) (by kernel_rfl) (by kernel_rfl) (sn_call (f := 17) (args := #[.agg #[.slice (some ⟨B15, 0, none⟩) 24 24], .agg #[.slice (some ⟨B314, 0, none⟩) 24 24]]) (by kernel_rfl) ((rSame_v (r := true) _ _ _ (RowsAt.va (hr17.ext (hY305.trans hX299)) (by kernel_rfl)) (RowsAt.va hr316 (by kernel_rfl)) (by kernel_rfl)).mono ?_))
      rintro e w322 ⟨rfl, hb⟩
      replace hE := hE.trans hb
      replace hX299 := hX299.trans hb
      replace bO309_0 := BoxAt.ext hb bO309_0
      replace bO309_1 := BoxAt.ext hb bO309_1
      replace hr316 := hr316.ext hb
      have hs323 := hb.size
      clear hb
      have hS324 := And.intro ((BoxAt.ext (hY305.trans hX299) bO21_0).1) (And.intro ((BoxAt.ext (hY304.trans hX299) bO35_0).1) ((BoxAt.ext (hY303.trans hX299) bO50_0).1))
      refine ⟨_, rfl, hS324, ?_⟩
      refine wd_take 4 (.bool true) hR rfl (by kernel_rfl) rfl (by kernel_rfl) (fun w _ => by kernel_rfl) (hS324) ?_
      refine wd_take 5 (.agg #[.slice (some ⟨B29, 0, none⟩) 24 24]) hR rfl (by kernel_rfl) rfl (by kernel_rfl) (fun w hS => ex_load rfl (by kernel_rfl) (ld39 (hS.2.1))) (hS324) ?_
      refine wd_step 6 hR rfl (by kernel_rfl) (by kernel_rfl) (by kernel_rfl) (sn_newS (us := #[.int .i64 1, .int .i64 2, .int .i64 3]) (t := 3) (k := 3) (c := 3) (by kernel_rfl) ?_)
      intro O325 X326 hO hOs hb hbx
      have hzO325 := hO; have hyO325 := hOs; clear hO hOs
      have bO325_0 : BoxAt X326 O325 0 (.int .i64 1) := hbx 0 _ rfl
      have bO325_1 : BoxAt X326 O325 1 (.int .i64 2) := hbx 1 _ rfl
      have bO325_2 : BoxAt X326 O325 2 (.int .i64 3) := hbx 2 _ rfl
      clear hbx
      replace hE := hE.trans hb
      replace hX299 := hX299.trans hb
      replace bO309_0 := BoxAt.ext hb bO309_0
      replace bO309_1 := BoxAt.ext hb bO309_1
      replace hr316 := hr316.ext hb
      have hs327 := hb.size
      clear hb
      have lt328 := bO325_0.lt
      have hS329 := And.intro ((BoxAt.ext (hY305.trans hX299) bO21_0).1) (And.intro ((BoxAt.ext (hY304.trans hX299) bO35_0).1) ((BoxAt.ext (hY303.trans hX299) bO50_0).1))
      refine ⟨hS329, ?_⟩
      have hI333 : IntsAt X326 (some ⟨O325, 0, none⟩) ((([1, 2, 3] : List Nat)).map fun y => ((y : Nat) : Int)) := (.inr ⟨O325, 0, rfl, fun i hi => by
        match i, hi with
        | 0, _ => exact bO325_0.1
        | 1, _ => exact bO325_1.1
        | 2, _ => exact bO325_2.1
        | _ + 3, hi => exact absurd hi (by simp)⟩)
      refine wd_step 7 hR rfl (by kernel_rfl) (by kernel_rfl) (by kernel_rfl) (sn_call (f := 15) (args := #[.int .i64 10, .slice (some ⟨O325, 0, none⟩) 3 3]) (by kernel_rfl) ((strip_c (x := 10) (ys := [1, 2, 3]) _ (by decide) hI333 rfl (by decide) (by decide) (Ext.refl _)).mono ?_))
      rintro e w334 ⟨B330, rfl, hn331, hr332, hb⟩
      replace hE := hE.trans hb
      replace hX299 := hX299.trans hb
      replace bO309_0 := BoxAt.ext hb bO309_0
      replace bO309_1 := BoxAt.ext hb bO309_1
      replace hr316 := hr316.ext hb
      replace bO325_0 := BoxAt.ext hb bO325_0
      replace bO325_1 := BoxAt.ext hb bO325_1
      replace bO325_2 := BoxAt.ext hb bO325_2
      have hs335 := hb.size
      clear hb
      have lt336 := hr332.lt
      have hS337 := And.intro ((BoxAt.ext (hY305.trans hX299) bO21_0).1) (And.intro ((BoxAt.ext (hY304.trans hX299) bO35_0).1) ((BoxAt.ext (hY303.trans hX299) bO50_0).1))
      refine ⟨_, rfl, hS337, ?_⟩
      refine wd_step 8 hR rfl (by kernel_rfl) (by kernel_rfl) (by kernel_rfl) (sn_call (f := 17) (args := #[.agg #[.slice (some ⟨B29, 0, none⟩) 24 24], .agg #[.slice (some ⟨B330, 0, none⟩) 24 24]]) (by kernel_rfl) ((rSame_v (r := true) _ _ _ (RowsAt.va (hr31.ext (hY304.trans hX299)) (by kernel_rfl)) (RowsAt.va hr332 (by kernel_rfl)) (by kernel_rfl)).mono ?_))
      rintro e w338 ⟨rfl, hb⟩
      replace hE := hE.trans hb
      replace hX299 := hX299.trans hb
      replace bO309_0 := BoxAt.ext hb bO309_0
      replace bO309_1 := BoxAt.ext hb bO309_1
      replace hr316 := hr316.ext hb
      replace bO325_0 := BoxAt.ext hb bO325_0
      replace bO325_1 := BoxAt.ext hb bO325_1
      replace bO325_2 := BoxAt.ext hb bO325_2
      replace hr332 := hr332.ext hb
      have hs339 := hb.size
      clear hb
      have hS340 := And.intro ((BoxAt.ext (hY305.trans hX299) bO21_0).1) (And.intro ((BoxAt.ext (hY304.trans hX299) bO35_0).1) ((BoxAt.ext (hY303.trans hX299) bO50_0).1))
      refine ⟨_, rfl, hS340, ?_⟩
      refine wd_take 9 (.bool true) hR rfl (by kernel_rfl) rfl (by kernel_rfl) (fun w _ => by kernel_rfl) (hS340) ?_
      refine wd_take 10 (.bool true) hR rfl (by kernel_rfl) rfl (by kernel_rfl) (fun w _ => by kernel_rfl) (hS340) ?_
      refine wd_take 11 (.agg #[.slice (some ⟨B44, 0, none⟩) 24 24]) hR rfl (by kernel_rfl) rfl (by kernel_rfl) (fun w hS => ex_load rfl (by kernel_rfl) (ld39 (hS.2.2))) (hS340) ?_
      refine wd_step 12 hR rfl (by kernel_rfl) (by kernel_rfl) (by kernel_rfl) (sn_newS (us := #[.int .i64 2, .int .i64 3, .int .i64 4]) (t := 3) (k := 3) (c := 3) (by kernel_rfl) ?_)
      intro O341 X342 hO hOs hb hbx
      have hzO341 := hO; have hyO341 := hOs; clear hO hOs
      have bO341_0 : BoxAt X342 O341 0 (.int .i64 2) := hbx 0 _ rfl
      have bO341_1 : BoxAt X342 O341 1 (.int .i64 3) := hbx 1 _ rfl
      have bO341_2 : BoxAt X342 O341 2 (.int .i64 4) := hbx 2 _ rfl
      clear hbx
      replace hE := hE.trans hb
      replace hX299 := hX299.trans hb
      replace bO309_0 := BoxAt.ext hb bO309_0
      replace bO309_1 := BoxAt.ext hb bO309_1
      replace hr316 := hr316.ext hb
      replace bO325_0 := BoxAt.ext hb bO325_0
      replace bO325_1 := BoxAt.ext hb bO325_1
      replace bO325_2 := BoxAt.ext hb bO325_2
      replace hr332 := hr332.ext hb
      have hs343 := hb.size
      clear hb
      have lt344 := bO341_0.lt
      have hS345 := And.intro ((BoxAt.ext (hY305.trans hX299) bO21_0).1) (And.intro ((BoxAt.ext (hY304.trans hX299) bO35_0).1) ((BoxAt.ext (hY303.trans hX299) bO50_0).1))
      refine ⟨hS345, ?_⟩
      have hI349 : IntsAt X342 (some ⟨O341, 0, none⟩) ((([2, 3, 4] : List Nat)).map fun y => ((y : Nat) : Int)) := (.inr ⟨O341, 0, rfl, fun i hi => by
        match i, hi with
        | 0, _ => exact bO341_0.1
        | 1, _ => exact bO341_1.1
        | 2, _ => exact bO341_2.1
        | _ + 3, hi => exact absurd hi (by simp)⟩)
      refine wd_step 13 hR rfl (by kernel_rfl) (by kernel_rfl) (by kernel_rfl) (sn_call (f := 15) (args := #[.int .i64 10, .slice (some ⟨O341, 0, none⟩) 3 3]) (by kernel_rfl) ((strip_c (x := 10) (ys := [2, 3, 4]) _ (by decide) hI349 rfl (by decide) (by decide) (Ext.refl _)).mono ?_))
      rintro e w350 ⟨B346, rfl, hn347, hr348, hb⟩
      replace hE := hE.trans hb
      replace hX299 := hX299.trans hb
      replace bO309_0 := BoxAt.ext hb bO309_0
      replace bO309_1 := BoxAt.ext hb bO309_1
      replace hr316 := hr316.ext hb
      replace bO325_0 := BoxAt.ext hb bO325_0
      replace bO325_1 := BoxAt.ext hb bO325_1
      replace bO325_2 := BoxAt.ext hb bO325_2
      replace hr332 := hr332.ext hb
      replace bO341_0 := BoxAt.ext hb bO341_0
      replace bO341_1 := BoxAt.ext hb bO341_1
      replace bO341_2 := BoxAt.ext hb bO341_2
      have hs351 := hb.size
      clear hb
      have lt352 := hr348.lt
      have hS353 := And.intro ((BoxAt.ext (hY305.trans hX299) bO21_0).1) (And.intro ((BoxAt.ext (hY304.trans hX299) bO35_0).1) ((BoxAt.ext (hY303.trans hX299) bO50_0).1))
      refine ⟨_, rfl, hS353, ?_⟩
      refine wd_step 14 hR rfl (by kernel_rfl) (by kernel_rfl) (by kernel_rfl) (sn_call (f := 17) (args := #[.agg #[.slice (some ⟨B44, 0, none⟩) 24 24], .agg #[.slice (some ⟨B346, 0, none⟩) 24 24]]) (by kernel_rfl) ((rSame_v (r := true) _ _ _ (RowsAt.va (hr46.ext (hY303.trans hX299)) (by kernel_rfl)) (RowsAt.va hr348 (by kernel_rfl)) (by kernel_rfl)).mono ?_))
      rintro e w354 ⟨rfl, hb⟩
      replace hE := hE.trans hb
      replace hX299 := hX299.trans hb
      replace bO309_0 := BoxAt.ext hb bO309_0
      replace bO309_1 := BoxAt.ext hb bO309_1
      replace hr316 := hr316.ext hb
      replace bO325_0 := BoxAt.ext hb bO325_0
      replace bO325_1 := BoxAt.ext hb bO325_1
      replace bO325_2 := BoxAt.ext hb bO325_2
      replace hr332 := hr332.ext hb
      replace bO341_0 := BoxAt.ext hb bO341_0
      replace bO341_1 := BoxAt.ext hb bO341_1
      replace bO341_2 := BoxAt.ext hb bO341_2
      replace hr348 := hr348.ext hb
      have hs355 := hb.size
      clear hb
      have hS356 := And.intro ((BoxAt.ext (hY305.trans hX299) bO21_0).1) (And.intro ((BoxAt.ext (hY304.trans hX299) bO35_0).1) ((BoxAt.ext (hY303.trans hX299) bO50_0).1))
      refine ⟨_, rfl, hS356, ?_⟩
      refine wd_take 15 (.bool true) hR rfl (by kernel_rfl) rfl (by kernel_rfl) (fun w _ => by kernel_rfl) (hS356) ?_
      refine wd_take 16 (.bool true) hR rfl (by kernel_rfl) rfl (by kernel_rfl) (fun w _ => by kernel_rfl) (hS356) ?_
      refine wd_end hL hR hK (by kernel_rfl) ?_
      refine qw_then ?_
      refine cw_clean [1, 2, 9, 11, 12, 13, 17, 19, 20, 24] (ws' := [(1, .pointer (some ⟨O1, 0, none⟩)), (2, .pointer (some ⟨O8, 0, none⟩)), (9, .pointer (some ⟨O73, 0, none⟩)), (11, .pointer (some ⟨O103, 0, none⟩)), (12, .int .i64 2), (13, .bool true), (17, .bool false), (19, .int .i64 ((Swath.suns Swath.o0 Swath.s0 2).1 : Int)), (20, .int .i64 ((Swath.suns Swath.o0 Swath.s0 2).2 : Int)), (24, .bool true)]) (by kernel_rfl) (fun L => ?_)
      refine cw_seq ?_
      have hX357 : Ext w354 w354 := Ext.refl _
      have hY358 := hX283.trans hX299
      have hY359 := hX274.trans hY358
      have hY360 := hX176.trans hY359
      have hY361 := hX79.trans hY360
      refine cw_join (fun ws' Y => ∃ O365 : Nat, ∃ B370 : Nat, ∃ O378 : Nat, ∃ B383 : Nat, ws' = [(1, .pointer (some ⟨O1, 0, none⟩)), (2, .pointer (some ⟨O8, 0, none⟩)), (11, .pointer (some ⟨O103, 0, none⟩)), (12, .int .i64 2), (13, .bool true), (17, .bool false), (19, .int .i64 ((Swath.suns Swath.o0 Swath.s0 2).1 : Int)), (20, .int .i64 ((Swath.suns Swath.o0 Swath.s0 2).2 : Int)), (24, .bool true), (25, .bool true)] ∧ Ext w Y ∧ Ext w354 Y ∧ BoxAt Y O365 0 (.int .i64 2) ∧ BoxAt Y O365 1 (.int .i64 3) ∧ RowsAt Y B370 (Swath.stripL 12 [2, 3]) ∧ BoxAt Y O378 0 (.int .i64 1) ∧ BoxAt Y O378 1 (.int .i64 2) ∧ BoxAt Y O378 2 (.int .i64 3) ∧ BoxAt Y O378 3 (.int .i64 4) ∧ RowsAt Y B383 (Swath.stripL 12 [1, 2, 3, 4]) ∧ w354.heap.size ≤ Y.heap.size ∧ w354.heap.size ≤ O365 ∧ w354.heap.size ≤ B370 ∧ w354.heap.size ≤ O378 ∧ w354.heap.size ≤ B383 ∧ Hid (O365 ≠ B370) ∧ Hid (O365 ≠ O378) ∧ Hid (O365 ≠ B383) ∧ Hid (B370 ≠ O378) ∧ Hid (B370 ≠ B383) ∧ Hid (O378 ≠ B383)) (fun hJ => ?_) ?_
      ·
        refine cw_draw [(some 131, [9], []), (some 132, [], []), (some 133, [132], [1]), (some 134, [], []), (some 135, [134], [3, 2]), (some 136, [133, 135], [2, 4]), (some 137, [131, 136], [0, 5, 4]), (some 25, [137], [6, 6, 0, 1, 2, 3, 4, 5, 6])] (fun w' => w'.cell? ⟨O73, 0, none⟩ = some (.slice (some ⟨B60, 0, none⟩) 24 k62) ∧ w'.cell? ⟨O73, 1, none⟩ = some (.slice (some ⟨g61, 0, none⟩) 24 k63)) (by kernel_rfl) (by kernel_rfl) (by kernel_rfl) (by kernel_rfl) ((calm_then calm_body)) (⟨(BoxAt.ext (hY361.trans hX357) bO73_0).1, (BoxAt.ext (hY361.trans hX357) bO73_1).1⟩) (fun ops Q X362 hb hL hR hK => ?_)
        replace hE := hE.trans hb
        replace hX357 := hX357.trans hb
        have hs363 := hb.size
        clear hb
        have hS364 := And.intro ((BoxAt.ext (hY361.trans hX357) bO73_0).1) ((BoxAt.ext (hY361.trans hX357) bO73_1).1)
        refine wd_take 0 (.agg #[.slice (some ⟨B60, 0, none⟩) 24 k62, .slice (some ⟨g61, 0, none⟩) 24 k63]) hR rfl (by kernel_rfl) rfl (by kernel_rfl) (fun w hS => ex_load rfl (by kernel_rfl) (ld43 (hS.1) (hS.2))) (hS364) ?_
        refine wd_two 1 3 hR rfl rfl (by kernel_rfl) (by kernel_rfl) (by kernel_rfl) (by kernel_rfl) ?_ ?_
        ·
          refine sn_newS (us := #[.int .i64 2, .int .i64 3]) (t := 3) (k := 2) (c := 2) (by kernel_rfl) ?_
          intro O365 X366 hO hOs hb hbx
          have hzO365 := hO; have hyO365 := hOs; clear hO hOs
          have bO365_0 : BoxAt X366 O365 0 (.int .i64 2) := hbx 0 _ rfl
          have bO365_1 : BoxAt X366 O365 1 (.int .i64 3) := hbx 1 _ rfl
          clear hbx
          replace hE := hE.trans hb
          replace hX357 := hX357.trans hb
          have hs367 := hb.size
          clear hb
          have lt368 := bO365_0.lt
          have hS369 := And.intro ((BoxAt.ext (hY361.trans hX357) bO73_0).1) ((BoxAt.ext (hY361.trans hX357) bO73_1).1)
          refine ⟨hS369, ?_⟩
          refine wd_two 2 3 hR rfl rfl (by kernel_rfl) (by kernel_rfl) (by kernel_rfl) (by kernel_rfl) ?_ ?_
          ·
            have hI373 : IntsAt X366 (some ⟨O365, 0, none⟩) ((([2, 3] : List Nat)).map fun y => ((y : Nat) : Int)) := (.inr ⟨O365, 0, rfl, fun i hi => by
              match i, hi with
              | 0, _ => exact bO365_0.1
              | 1, _ => exact bO365_1.1
              | _ + 2, hi => exact absurd hi (by simp)⟩)
            refine sn_call (f := 15) (args := #[.int .i64 12, .slice (some ⟨O365, 0, none⟩) 2 2]) (by kernel_rfl) ((strip_c (x := 12) (ys := [2, 3]) _ (by decide) hI373 rfl (by decide) (by decide) (Ext.refl _)).mono ?_)
            rintro e w374 ⟨B370, rfl, hn371, hr372, hb⟩
            replace hE := hE.trans hb
            replace hX357 := hX357.trans hb
            replace bO365_0 := BoxAt.ext hb bO365_0
            replace bO365_1 := BoxAt.ext hb bO365_1
            have hs375 := hb.size
            clear hb
            have lt376 := hr372.lt
            have hS377 := And.intro ((BoxAt.ext (hY361.trans hX357) bO73_0).1) ((BoxAt.ext (hY361.trans hX357) bO73_1).1)
            refine ⟨_, rfl, hS377, ?_⟩
            refine wd_step 3 hR rfl (by kernel_rfl) (by kernel_rfl) (by kernel_rfl) (sn_newS (us := #[.int .i64 1, .int .i64 2, .int .i64 3, .int .i64 4]) (t := 3) (k := 4) (c := 4) (by kernel_rfl) ?_)
            intro O378 X379 hO hOs hb hbx
            have hzO378 := hO; have hyO378 := hOs; clear hO hOs
            have bO378_0 : BoxAt X379 O378 0 (.int .i64 1) := hbx 0 _ rfl
            have bO378_1 : BoxAt X379 O378 1 (.int .i64 2) := hbx 1 _ rfl
            have bO378_2 : BoxAt X379 O378 2 (.int .i64 3) := hbx 2 _ rfl
            have bO378_3 : BoxAt X379 O378 3 (.int .i64 4) := hbx 3 _ rfl
            clear hbx
            replace hE := hE.trans hb
            replace hX357 := hX357.trans hb
            replace bO365_0 := BoxAt.ext hb bO365_0
            replace bO365_1 := BoxAt.ext hb bO365_1
            replace hr372 := hr372.ext hb
            have hs380 := hb.size
            clear hb
            have lt381 := bO378_0.lt
            have hS382 := And.intro ((BoxAt.ext (hY361.trans hX357) bO73_0).1) ((BoxAt.ext (hY361.trans hX357) bO73_1).1)
            refine ⟨hS382, ?_⟩
            have hI386 : IntsAt X379 (some ⟨O378, 0, none⟩) ((([1, 2, 3, 4] : List Nat)).map fun y => ((y : Nat) : Int)) := (.inr ⟨O378, 0, rfl, fun i hi => by
              match i, hi with
              | 0, _ => exact bO378_0.1
              | 1, _ => exact bO378_1.1
              | 2, _ => exact bO378_2.1
              | 3, _ => exact bO378_3.1
              | _ + 4, hi => exact absurd hi (by simp)⟩)
            refine wd_step 4 hR rfl (by kernel_rfl) (by kernel_rfl) (by kernel_rfl) (sn_call (f := 15) (args := #[.int .i64 12, .slice (some ⟨O378, 0, none⟩) 4 4]) (by kernel_rfl) ((strip_c (x := 12) (ys := [1, 2, 3, 4]) _ (by decide) hI386 rfl (by decide) (by decide) (Ext.refl _)).mono ?_))
            rintro e w387 ⟨B383, rfl, hn384, hr385, hb⟩
            replace hE := hE.trans hb
            replace hX357 := hX357.trans hb
            replace bO365_0 := BoxAt.ext hb bO365_0
            replace bO365_1 := BoxAt.ext hb bO365_1
            replace hr372 := hr372.ext hb
            replace bO378_0 := BoxAt.ext hb bO378_0
            replace bO378_1 := BoxAt.ext hb bO378_1
            replace bO378_2 := BoxAt.ext hb bO378_2
            replace bO378_3 := BoxAt.ext hb bO378_3
            have hs388 := hb.size
            clear hb
            have lt389 := hr385.lt
            have hS390 := And.intro ((BoxAt.ext (hY361.trans hX357) bO73_0).1) ((BoxAt.ext (hY361.trans hX357) bO73_1).1)
            refine ⟨_, rfl, hS390, ?_⟩
            refine wd_take 5 (.agg #[.slice (some ⟨B370, 0, none⟩) 24 24, .slice (some ⟨B383, 0, none⟩) 24 24]) hR rfl (by kernel_rfl) rfl (by kernel_rfl) (fun w _ => by kernel_rfl) (hS390) ?_
            refine wd_step 6 hR rfl (by kernel_rfl) (by kernel_rfl) (by kernel_rfl) (sn_call (f := 18) (args := #[.agg #[.slice (some ⟨B60, 0, none⟩) 24 k62, .slice (some ⟨g61, 0, none⟩) 24 k63], .agg #[.slice (some ⟨B370, 0, none⟩) 24 24, .slice (some ⟨B383, 0, none⟩) 24 24]]) (by kernel_rfl) ((SameStrip_t _ (RowsAt.va (hr67.ext (hY361.trans hX357)) (by kernel_rfl)) (RowsAt.va (hr68.ext (hY361.trans hX357)) (by kernel_rfl)) (RowsAt.va hr372 (by kernel_rfl)) (RowsAt.va hr385 (by kernel_rfl)) (by kernel_rfl) (by kernel_rfl)).mono ?_))
            rintro e w391 ⟨rfl, hb⟩
            replace hE := hE.trans hb
            replace hX357 := hX357.trans hb
            replace bO365_0 := BoxAt.ext hb bO365_0
            replace bO365_1 := BoxAt.ext hb bO365_1
            replace hr372 := hr372.ext hb
            replace bO378_0 := BoxAt.ext hb bO378_0
            replace bO378_1 := BoxAt.ext hb bO378_1
            replace bO378_2 := BoxAt.ext hb bO378_2
            replace bO378_3 := BoxAt.ext hb bO378_3
            replace hr385 := hr385.ext hb
            have hs392 := hb.size
            clear hb
            have hS393 := And.intro ((BoxAt.ext (hY361.trans hX357) bO73_0).1) ((BoxAt.ext (hY361.trans hX357) bO73_1).1)
            refine ⟨_, rfl, hS393, ?_⟩
            refine wd_take 7 (.bool true) hR rfl (by kernel_rfl) rfl (by kernel_rfl) (fun w _ => by kernel_rfl) (hS393) ?_
            refine wd_end hL hR hK (by kernel_rfl) ?_
            exact qw_leaf hJ [1, 2, 11, 12, 13, 17, 19, 20, 24, 25] (ws' := [(1, .pointer (some ⟨O1, 0, none⟩)), (2, .pointer (some ⟨O8, 0, none⟩)), (11, .pointer (some ⟨O103, 0, none⟩)), (12, .int .i64 2), (13, .bool true), (17, .bool false), (19, .int .i64 ((Swath.suns Swath.o0 Swath.s0 2).1 : Int)), (20, .int .i64 ((Swath.suns Swath.o0 Swath.s0 2).2 : Int)), (24, .bool true), (25, .bool true)]) (by kernel_rfl) ⟨O365, B370, O378, B383, rfl, hE, hX357, bO365_0, bO365_1, hr372, bO378_0, bO378_1, bO378_2, bO378_3, hr385, (Nat.le_trans hs363 (Nat.le_trans hs367 (Nat.le_trans hs375 (Nat.le_trans hs380 (Nat.le_trans hs388 hs392))))), (Nat.le_trans hs363 (Nat.le_of_eq hzO365)), (Nat.le_trans (Nat.le_trans hs363 hs367) hn371), (Nat.le_trans (Nat.le_trans hs363 (Nat.le_trans hs367 hs375)) (Nat.le_of_eq hzO378)), (Nat.le_trans (Nat.le_trans hs363 (Nat.le_trans hs367 (Nat.le_trans hs375 hs380))) hn384), Lib.hid (Nat.ne_of_lt (Nat.lt_of_lt_of_le lt368 hn371)), Lib.hid (Nat.ne_of_lt (Nat.lt_of_lt_of_le lt368 (Nat.le_trans hs375 (Nat.le_of_eq hzO378)))), Lib.hid (Nat.ne_of_lt (Nat.lt_of_lt_of_le lt368 (Nat.le_trans (Nat.le_trans hs375 hs380) hn384))), Lib.hid (Nat.ne_of_lt (Nat.lt_of_lt_of_le lt376 (Nat.le_of_eq hzO378))), Lib.hid (Nat.ne_of_lt (Nat.lt_of_lt_of_le lt376 (Nat.le_trans hs380 hn384))), Lib.hid (Nat.ne_of_lt (Nat.lt_of_lt_of_le lt381 hn384))⟩
          ·
            refine sn_newS (us := #[.int .i64 1, .int .i64 2, .int .i64 3, .int .i64 4]) (t := 3) (k := 4) (c := 4) (by kernel_rfl) ?_
            intro O394 X395 hO hOs hb hbx
            have hzO394 := hO; have hyO394 := hOs; clear hO hOs
            have bO394_0 : BoxAt X395 O394 0 (.int .i64 1) := hbx 0 _ rfl
            have bO394_1 : BoxAt X395 O394 1 (.int .i64 2) := hbx 1 _ rfl
            have bO394_2 : BoxAt X395 O394 2 (.int .i64 3) := hbx 2 _ rfl
            have bO394_3 : BoxAt X395 O394 3 (.int .i64 4) := hbx 3 _ rfl
            clear hbx
            replace hE := hE.trans hb
            replace hX357 := hX357.trans hb
            replace bO365_0 := BoxAt.ext hb bO365_0
            replace bO365_1 := BoxAt.ext hb bO365_1
            have hs396 := hb.size
            clear hb
            have lt397 := bO394_0.lt
            have hS398 := And.intro ((BoxAt.ext (hY361.trans hX357) bO73_0).1) ((BoxAt.ext (hY361.trans hX357) bO73_1).1)
            refine ⟨hS398, ?_⟩
            have hI402 : IntsAt X395 (some ⟨O365, 0, none⟩) ((([2, 3] : List Nat)).map fun y => ((y : Nat) : Int)) := (.inr ⟨O365, 0, rfl, fun i hi => by
              match i, hi with
              | 0, _ => exact bO365_0.1
              | 1, _ => exact bO365_1.1
              | _ + 2, hi => exact absurd hi (by simp)⟩)
            refine wd_step 2 hR rfl (by kernel_rfl) (by kernel_rfl) (by kernel_rfl) (sn_call (f := 15) (args := #[.int .i64 12, .slice (some ⟨O365, 0, none⟩) 2 2]) (by kernel_rfl) ((strip_c (x := 12) (ys := [2, 3]) _ (by decide) hI402 rfl (by decide) (by decide) (Ext.refl _)).mono ?_))
            rintro e w403 ⟨B399, rfl, hn400, hr401, hb⟩
            replace hE := hE.trans hb
            replace hX357 := hX357.trans hb
            replace bO365_0 := BoxAt.ext hb bO365_0
            replace bO365_1 := BoxAt.ext hb bO365_1
            replace bO394_0 := BoxAt.ext hb bO394_0
            replace bO394_1 := BoxAt.ext hb bO394_1
            replace bO394_2 := BoxAt.ext hb bO394_2
            replace bO394_3 := BoxAt.ext hb bO394_3
            have hs404 := hb.size
            clear hb
            have lt405 := hr401.lt
            have hS406 := And.intro ((BoxAt.ext (hY361.trans hX357) bO73_0).1) ((BoxAt.ext (hY361.trans hX357) bO73_1).1)
            refine ⟨_, rfl, hS406, ?_⟩
            have hI410 : IntsAt w403 (some ⟨O394, 0, none⟩) ((([1, 2, 3, 4] : List Nat)).map fun y => ((y : Nat) : Int)) := (.inr ⟨O394, 0, rfl, fun i hi => by
              match i, hi with
              | 0, _ => exact bO394_0.1
              | 1, _ => exact bO394_1.1
              | 2, _ => exact bO394_2.1
              | 3, _ => exact bO394_3.1
              | _ + 4, hi => exact absurd hi (by simp)⟩)
            refine wd_step 4 hR rfl (by kernel_rfl) (by kernel_rfl) (by kernel_rfl) (sn_call (f := 15) (args := #[.int .i64 12, .slice (some ⟨O394, 0, none⟩) 4 4]) (by kernel_rfl) ((strip_c (x := 12) (ys := [1, 2, 3, 4]) _ (by decide) hI410 rfl (by decide) (by decide) (Ext.refl _)).mono ?_))
            rintro e w411 ⟨B407, rfl, hn408, hr409, hb⟩
            replace hE := hE.trans hb
            replace hX357 := hX357.trans hb
            replace bO365_0 := BoxAt.ext hb bO365_0
            replace bO365_1 := BoxAt.ext hb bO365_1
            replace bO394_0 := BoxAt.ext hb bO394_0
            replace bO394_1 := BoxAt.ext hb bO394_1
            replace bO394_2 := BoxAt.ext hb bO394_2
            replace bO394_3 := BoxAt.ext hb bO394_3
            replace hr401 := hr401.ext hb
            have hs412 := hb.size
            clear hb
            have lt413 := hr409.lt
            have hS414 := And.intro ((BoxAt.ext (hY361.trans hX357) bO73_0).1) ((BoxAt.ext (hY361.trans hX357) bO73_1).1)
            refine ⟨_, rfl, hS414, ?_⟩
            refine wd_take 5 (.agg #[.slice (some ⟨B399, 0, none⟩) 24 24, .slice (some ⟨B407, 0, none⟩) 24 24]) hR rfl (by kernel_rfl) rfl (by kernel_rfl) (fun w _ => by kernel_rfl) (hS414) ?_
            refine wd_step 6 hR rfl (by kernel_rfl) (by kernel_rfl) (by kernel_rfl) (sn_call (f := 18) (args := #[.agg #[.slice (some ⟨B60, 0, none⟩) 24 k62, .slice (some ⟨g61, 0, none⟩) 24 k63], .agg #[.slice (some ⟨B399, 0, none⟩) 24 24, .slice (some ⟨B407, 0, none⟩) 24 24]]) (by kernel_rfl) ((SameStrip_t _ (RowsAt.va (hr67.ext (hY361.trans hX357)) (by kernel_rfl)) (RowsAt.va (hr68.ext (hY361.trans hX357)) (by kernel_rfl)) (RowsAt.va hr401 (by kernel_rfl)) (RowsAt.va hr409 (by kernel_rfl)) (by kernel_rfl) (by kernel_rfl)).mono ?_))
            rintro e w415 ⟨rfl, hb⟩
            replace hE := hE.trans hb
            replace hX357 := hX357.trans hb
            replace bO365_0 := BoxAt.ext hb bO365_0
            replace bO365_1 := BoxAt.ext hb bO365_1
            replace bO394_0 := BoxAt.ext hb bO394_0
            replace bO394_1 := BoxAt.ext hb bO394_1
            replace bO394_2 := BoxAt.ext hb bO394_2
            replace bO394_3 := BoxAt.ext hb bO394_3
            replace hr401 := hr401.ext hb
            replace hr409 := hr409.ext hb
            have hs416 := hb.size
            clear hb
            have hS417 := And.intro ((BoxAt.ext (hY361.trans hX357) bO73_0).1) ((BoxAt.ext (hY361.trans hX357) bO73_1).1)
            refine ⟨_, rfl, hS417, ?_⟩
            refine wd_take 7 (.bool true) hR rfl (by kernel_rfl) rfl (by kernel_rfl) (fun w _ => by kernel_rfl) (hS417) ?_
            refine wd_end hL hR hK (by kernel_rfl) ?_
            exact qw_leaf hJ [1, 2, 11, 12, 13, 17, 19, 20, 24, 25] (ws' := [(1, .pointer (some ⟨O1, 0, none⟩)), (2, .pointer (some ⟨O8, 0, none⟩)), (11, .pointer (some ⟨O103, 0, none⟩)), (12, .int .i64 2), (13, .bool true), (17, .bool false), (19, .int .i64 ((Swath.suns Swath.o0 Swath.s0 2).1 : Int)), (20, .int .i64 ((Swath.suns Swath.o0 Swath.s0 2).2 : Int)), (24, .bool true), (25, .bool true)]) (by kernel_rfl) ⟨O365, B399, O394, B407, rfl, hE, hX357, bO365_0, bO365_1, hr401, bO394_0, bO394_1, bO394_2, bO394_3, hr409, (Nat.le_trans hs363 (Nat.le_trans hs367 (Nat.le_trans hs396 (Nat.le_trans hs404 (Nat.le_trans hs412 hs416))))), (Nat.le_trans hs363 (Nat.le_of_eq hzO365)), (Nat.le_trans (Nat.le_trans hs363 (Nat.le_trans hs367 hs396)) hn400), (Nat.le_trans (Nat.le_trans hs363 hs367) (Nat.le_of_eq hzO394)), (Nat.le_trans (Nat.le_trans hs363 (Nat.le_trans hs367 (Nat.le_trans hs396 hs404))) hn408), Lib.hid (Nat.ne_of_lt (Nat.lt_of_lt_of_le lt368 (Nat.le_trans hs396 hn400))), Lib.hid (Nat.ne_of_lt (Nat.lt_of_lt_of_le lt368 (Nat.le_of_eq hzO394))), Lib.hid (Nat.ne_of_lt (Nat.lt_of_lt_of_le lt368 (Nat.le_trans (Nat.le_trans hs396 hs404) hn408))), Lib.hid (Nat.ne_of_gt (Nat.lt_of_lt_of_le lt397 hn400)), Lib.hid (Nat.ne_of_lt (Nat.lt_of_lt_of_le lt405 hn408)), Lib.hid (Nat.ne_of_lt (Nat.lt_of_lt_of_le lt397 (Nat.le_trans hs404 hn408)))⟩
        ·
          refine sn_newS (us := #[.int .i64 1, .int .i64 2, .int .i64 3, .int .i64 4]) (t := 3) (k := 4) (c := 4) (by kernel_rfl) ?_
          intro O418 X419 hO hOs hb hbx
          have hzO418 := hO; have hyO418 := hOs; clear hO hOs
          have bO418_0 : BoxAt X419 O418 0 (.int .i64 1) := hbx 0 _ rfl
          have bO418_1 : BoxAt X419 O418 1 (.int .i64 2) := hbx 1 _ rfl
          have bO418_2 : BoxAt X419 O418 2 (.int .i64 3) := hbx 2 _ rfl
          have bO418_3 : BoxAt X419 O418 3 (.int .i64 4) := hbx 3 _ rfl
          clear hbx
          replace hE := hE.trans hb
          replace hX357 := hX357.trans hb
          have hs420 := hb.size
          clear hb
          have lt421 := bO418_0.lt
          have hS422 := And.intro ((BoxAt.ext (hY361.trans hX357) bO73_0).1) ((BoxAt.ext (hY361.trans hX357) bO73_1).1)
          refine ⟨hS422, ?_⟩
          refine wd_step 1 hR rfl (by kernel_rfl) (by kernel_rfl) (by kernel_rfl) (sn_newS (us := #[.int .i64 2, .int .i64 3]) (t := 3) (k := 2) (c := 2) (by kernel_rfl) ?_)
          intro O423 X424 hO hOs hb hbx
          have hzO423 := hO; have hyO423 := hOs; clear hO hOs
          have bO423_0 : BoxAt X424 O423 0 (.int .i64 2) := hbx 0 _ rfl
          have bO423_1 : BoxAt X424 O423 1 (.int .i64 3) := hbx 1 _ rfl
          clear hbx
          replace hE := hE.trans hb
          replace hX357 := hX357.trans hb
          replace bO418_0 := BoxAt.ext hb bO418_0
          replace bO418_1 := BoxAt.ext hb bO418_1
          replace bO418_2 := BoxAt.ext hb bO418_2
          replace bO418_3 := BoxAt.ext hb bO418_3
          have hs425 := hb.size
          clear hb
          have lt426 := bO423_0.lt
          have hS427 := And.intro ((BoxAt.ext (hY361.trans hX357) bO73_0).1) ((BoxAt.ext (hY361.trans hX357) bO73_1).1)
          refine ⟨hS427, ?_⟩
          have hI431 : IntsAt X424 (some ⟨O423, 0, none⟩) ((([2, 3] : List Nat)).map fun y => ((y : Nat) : Int)) := (.inr ⟨O423, 0, rfl, fun i hi => by
            match i, hi with
            | 0, _ => exact bO423_0.1
            | 1, _ => exact bO423_1.1
            | _ + 2, hi => exact absurd hi (by simp)⟩)
          refine wd_step 2 hR rfl (by kernel_rfl) (by kernel_rfl) (by kernel_rfl) (sn_call (f := 15) (args := #[.int .i64 12, .slice (some ⟨O423, 0, none⟩) 2 2]) (by kernel_rfl) ((strip_c (x := 12) (ys := [2, 3]) _ (by decide) hI431 rfl (by decide) (by decide) (Ext.refl _)).mono ?_))
          rintro e w432 ⟨B428, rfl, hn429, hr430, hb⟩
          replace hE := hE.trans hb
          replace hX357 := hX357.trans hb
          replace bO418_0 := BoxAt.ext hb bO418_0
          replace bO418_1 := BoxAt.ext hb bO418_1
          replace bO418_2 := BoxAt.ext hb bO418_2
          replace bO418_3 := BoxAt.ext hb bO418_3
          replace bO423_0 := BoxAt.ext hb bO423_0
          replace bO423_1 := BoxAt.ext hb bO423_1
          have hs433 := hb.size
          clear hb
          have lt434 := hr430.lt
          have hS435 := And.intro ((BoxAt.ext (hY361.trans hX357) bO73_0).1) ((BoxAt.ext (hY361.trans hX357) bO73_1).1)
          refine ⟨_, rfl, hS435, ?_⟩
          have hI439 : IntsAt w432 (some ⟨O418, 0, none⟩) ((([1, 2, 3, 4] : List Nat)).map fun y => ((y : Nat) : Int)) := (.inr ⟨O418, 0, rfl, fun i hi => by
            match i, hi with
            | 0, _ => exact bO418_0.1
            | 1, _ => exact bO418_1.1
            | 2, _ => exact bO418_2.1
            | 3, _ => exact bO418_3.1
            | _ + 4, hi => exact absurd hi (by simp)⟩)
          refine wd_step 4 hR rfl (by kernel_rfl) (by kernel_rfl) (by kernel_rfl) (sn_call (f := 15) (args := #[.int .i64 12, .slice (some ⟨O418, 0, none⟩) 4 4]) (by kernel_rfl) ((strip_c (x := 12) (ys := [1, 2, 3, 4]) _ (by decide) hI439 rfl (by decide) (by decide) (Ext.refl _)).mono ?_))
          rintro e w440 ⟨B436, rfl, hn437, hr438, hb⟩
          replace hE := hE.trans hb
          replace hX357 := hX357.trans hb
          replace bO418_0 := BoxAt.ext hb bO418_0
          replace bO418_1 := BoxAt.ext hb bO418_1
          replace bO418_2 := BoxAt.ext hb bO418_2
          replace bO418_3 := BoxAt.ext hb bO418_3
          replace bO423_0 := BoxAt.ext hb bO423_0
          replace bO423_1 := BoxAt.ext hb bO423_1
          replace hr430 := hr430.ext hb
          have hs441 := hb.size
          clear hb
          have lt442 := hr438.lt
          have hS443 := And.intro ((BoxAt.ext (hY361.trans hX357) bO73_0).1) ((BoxAt.ext (hY361.trans hX357) bO73_1).1)
          refine ⟨_, rfl, hS443, ?_⟩
          refine wd_take 5 (.agg #[.slice (some ⟨B428, 0, none⟩) 24 24, .slice (some ⟨B436, 0, none⟩) 24 24]) hR rfl (by kernel_rfl) rfl (by kernel_rfl) (fun w _ => by kernel_rfl) (hS443) ?_
          refine wd_step 6 hR rfl (by kernel_rfl) (by kernel_rfl) (by kernel_rfl) (sn_call (f := 18) (args := #[.agg #[.slice (some ⟨B60, 0, none⟩) 24 k62, .slice (some ⟨g61, 0, none⟩) 24 k63], .agg #[.slice (some ⟨B428, 0, none⟩) 24 24, .slice (some ⟨B436, 0, none⟩) 24 24]]) (by kernel_rfl) ((SameStrip_t _ (RowsAt.va (hr67.ext (hY361.trans hX357)) (by kernel_rfl)) (RowsAt.va (hr68.ext (hY361.trans hX357)) (by kernel_rfl)) (RowsAt.va hr430 (by kernel_rfl)) (RowsAt.va hr438 (by kernel_rfl)) (by kernel_rfl) (by kernel_rfl)).mono ?_))
          rintro e w444 ⟨rfl, hb⟩
          replace hE := hE.trans hb
          replace hX357 := hX357.trans hb
          replace bO418_0 := BoxAt.ext hb bO418_0
          replace bO418_1 := BoxAt.ext hb bO418_1
          replace bO418_2 := BoxAt.ext hb bO418_2
          replace bO418_3 := BoxAt.ext hb bO418_3
          replace bO423_0 := BoxAt.ext hb bO423_0
          replace bO423_1 := BoxAt.ext hb bO423_1
          replace hr430 := hr430.ext hb
          replace hr438 := hr438.ext hb
          have hs445 := hb.size
          clear hb
          have hS446 := And.intro ((BoxAt.ext (hY361.trans hX357) bO73_0).1) ((BoxAt.ext (hY361.trans hX357) bO73_1).1)
          refine ⟨_, rfl, hS446, ?_⟩
          refine wd_take 7 (.bool true) hR rfl (by kernel_rfl) rfl (by kernel_rfl) (fun w _ => by kernel_rfl) (hS446) ?_
          refine wd_end hL hR hK (by kernel_rfl) ?_
          exact qw_leaf hJ [1, 2, 11, 12, 13, 17, 19, 20, 24, 25] (ws' := [(1, .pointer (some ⟨O1, 0, none⟩)), (2, .pointer (some ⟨O8, 0, none⟩)), (11, .pointer (some ⟨O103, 0, none⟩)), (12, .int .i64 2), (13, .bool true), (17, .bool false), (19, .int .i64 ((Swath.suns Swath.o0 Swath.s0 2).1 : Int)), (20, .int .i64 ((Swath.suns Swath.o0 Swath.s0 2).2 : Int)), (24, .bool true), (25, .bool true)]) (by kernel_rfl) ⟨O423, B428, O418, B436, rfl, hE, hX357, bO423_0, bO423_1, hr430, bO418_0, bO418_1, bO418_2, bO418_3, hr438, (Nat.le_trans hs363 (Nat.le_trans hs420 (Nat.le_trans hs425 (Nat.le_trans hs433 (Nat.le_trans hs441 hs445))))), (Nat.le_trans (Nat.le_trans hs363 hs420) (Nat.le_of_eq hzO423)), (Nat.le_trans (Nat.le_trans hs363 (Nat.le_trans hs420 hs425)) hn429), (Nat.le_trans hs363 (Nat.le_of_eq hzO418)), (Nat.le_trans (Nat.le_trans hs363 (Nat.le_trans hs420 (Nat.le_trans hs425 hs433))) hn437), Lib.hid (Nat.ne_of_lt (Nat.lt_of_lt_of_le lt426 hn429)), Lib.hid (Nat.ne_of_gt (Nat.lt_of_lt_of_le lt421 (Nat.le_of_eq hzO423))), Lib.hid (Nat.ne_of_lt (Nat.lt_of_lt_of_le lt426 (Nat.le_trans hs433 hn437))), Lib.hid (Nat.ne_of_gt (Nat.lt_of_lt_of_le lt421 (Nat.le_trans hs425 hn429))), Lib.hid (Nat.ne_of_lt (Nat.lt_of_lt_of_le lt434 hn437)), Lib.hid (Nat.ne_of_lt (Nat.lt_of_lt_of_le lt421 (Nat.le_trans (Nat.le_trans hs425 hs433) hn437)))⟩
      ·
        clear hE hX357
        rintro L ws Y447 ⟨O365, B370, O378, B383, rfl, hE, hX357, bO365_0, bO365_1, hr372, bO378_0, bO378_1, bO378_2, bO378_3, hr385, hn448, hn449, hn450, hn451, hn452, hn453, hn454, hn455, hn456, hn457, hn458⟩
        have lt459 := bO365_0.lt
        have lt460 := hr372.lt
        have lt461 := bO378_0.lt
        have lt462 := hr385.lt
        refine qw_then ?_
        refine cw_seq ?_
        have hX463 : Ext Y447 Y447 := Ext.refl _
        have hY464 := hX299.trans hX357
        have hY465 := hX283.trans hY464
        have hY466 := hX274.trans hY465
        have hY467 := hX176.trans hY466
        have hY468 := hX79.trans hY467
        have hY469 := hX56.trans hY468
        have hY470 := hX41.trans hY469
        have hY471 := hX27.trans hY470
        have hY472 := hX14.trans hY471
        have hY473 := hX7.trans hY472
        refine cw_draw [(some 138, [24], []), (some 139, [138], [0]), (some 140, [25, 139], [1]), (some 141, [139, 140], [1, 2]), (some 142, [141], [3, 1]), (some 143, [13, 142], [4]), (some 144, [142, 143], [4, 5]), (some 145, [144], [6, 4]), (some 146, [17, 145], [7]), (some 147, [146, 145], [8, 7]), (some 148, [145, 147], [7, 9]), (some 149, [148], [10, 7]), (some 150, [11, 149], [11]), (some 151, [149], [11]), (some 152, [150, 151, 149], [12, 13, 11]), (some 153, [149, 152], [11, 14]), (some 154, [153], [15, 11]), (some 155, [12, 154], [16]), (some 156, [155, 154], [17, 16]), (some 157, [154, 156], [16, 18]), (some 158, [157], [19, 16]), (some 159, [19, 158], [20]), (some 160, [20, 158], [20]), (some 161, [159, 160, 158], [21, 22, 20]), (some 162, [158, 161], [20, 23]), (some 163, [162], [24, 20]), (some 164, [1, 163], [25]), (some 165, [2, 163], [25]), (some 166, [164, 165, 163], [26, 27, 25, 25]), (some 167, [163, 166], [25, 28]), (some 168, [167], [29, 28]), (some 169, [1, 168], [30]), (some 170, [2, 168], [30]), (some 171, [169, 170, 168], [31, 32, 30, 30]), (some 172, [171, 168], [33, 30]), (some 173, [168, 172], [30, 34]), (some 174, [173], [35, 33]), (some 175, [1, 174], [36]), (some 176, [2, 174], [36]), (some 177, [174], [36]), (some 178, [177, 174], [39, 36, 36]), (some 179, [175, 176, 178, 174], [37, 38, 40, 40, 36]), (some 180, [174, 179], [36, 41]), (some 181, [180], [42, 41]), (some 182, [1, 181], [43]), (some 183, [2, 181], [43]), (some 184, [181], [43]), (some 185, [184, 181], [46, 43, 43]), (some 186, [182, 183, 185, 181], [44, 45, 47, 47, 43]), (some 187, [186, 181], [48, 43]), (some 188, [181, 187], [43, 49]), (some 0, [188], [50, 48, 0, 1, 2, 3, 4, 5, 6, 7, 8, 9, 10, 11, 12, 13, 14, 15, 16, 17, 18, 19, 20, 21, 22, 23, 24, 25, 26, 27, 28, 29, 30, 31, 32, 33, 34, 35, 36, 37, 38, 39, 40, 41, 42, 43, 44, 45, 46, 47, 48, 49, 50])] (fun w' => w'.cell? ⟨O103, 0, none⟩ = some (.int .i64 17) ∧ w'.cell? ⟨O103, 1, none⟩ = some (.int .i64 27) ∧ w'.cell? ⟨O1, 0, none⟩ = some (.int .i64 200) ∧ w'.cell? ⟨O1, 1, none⟩ = some (.int .i64 0) ∧ w'.cell? ⟨O1, 2, none⟩ = some (.int .i64 0) ∧ w'.cell? ⟨O1, 3, none⟩ = some (.int .i64 20000) ∧ w'.cell? ⟨O1, 4, none⟩ = some (.int .i64 10000) ∧ w'.cell? ⟨O1, 5, none⟩ = some (.int .i64 0) ∧ w'.cell? ⟨O1, 6, none⟩ = some (.int .i64 1) ∧ w'.cell? ⟨O8, 0, none⟩ = some (.int .i64 10) ∧ w'.cell? ⟨O8, 1, none⟩ = some (.int .i64 20)) (by kernel_rfl) (by kernel_rfl) (by kernel_rfl) (by kernel_rfl) ((calm_then calm_body)) (⟨(BoxAt.ext (hY467.trans hX463) bO103_0).1, (BoxAt.ext (hY467.trans hX463) bO103_1).1, (BoxAt.ext (hY473.trans hX463) bO1_0).1, (BoxAt.ext (hY473.trans hX463) bO1_1).1, (BoxAt.ext (hY473.trans hX463) bO1_2).1, (BoxAt.ext (hY473.trans hX463) bO1_3).1, (BoxAt.ext (hY473.trans hX463) bO1_4).1, (BoxAt.ext (hY473.trans hX463) bO1_5).1, (BoxAt.ext (hY473.trans hX463) bO1_6).1, (BoxAt.ext (hY472.trans hX463) bO8_0).1, (BoxAt.ext (hY472.trans hX463) bO8_1).1⟩) (fun ops Q X474 hb hL hR hK => ?_)
        replace hE := hE.trans hb
        replace hX463 := hX463.trans hb
        have hs475 := hb.size
        clear hb
        have hS476 := And.intro ((BoxAt.ext (hY467.trans hX463) bO103_0).1) (And.intro ((BoxAt.ext (hY467.trans hX463) bO103_1).1) (And.intro ((BoxAt.ext (hY473.trans hX463) bO1_0).1) (And.intro ((BoxAt.ext (hY473.trans hX463) bO1_1).1) (And.intro ((BoxAt.ext (hY473.trans hX463) bO1_2).1) (And.intro ((BoxAt.ext (hY473.trans hX463) bO1_3).1) (And.intro ((BoxAt.ext (hY473.trans hX463) bO1_4).1) (And.intro ((BoxAt.ext (hY473.trans hX463) bO1_5).1) (And.intro ((BoxAt.ext (hY473.trans hX463) bO1_6).1) (And.intro ((BoxAt.ext (hY472.trans hX463) bO8_0).1) ((BoxAt.ext (hY472.trans hX463) bO8_1).1))))))))))
        refine wd_take 0 (.bool true) hR rfl (by kernel_rfl) rfl (by kernel_rfl) (fun w _ => by kernel_rfl) (hS476) ?_
        refine wd_take 1 (.bool true) hR rfl (by kernel_rfl) rfl (by kernel_rfl) (fun w _ => by kernel_rfl) (hS476) ?_
        refine wd_take 2 (.bool true) hR rfl (by kernel_rfl) rfl (by kernel_rfl) (fun w _ => by kernel_rfl) (hS476) ?_
        refine wd_take 3 (.bool true) hR rfl (by kernel_rfl) rfl (by kernel_rfl) (fun w _ => by kernel_rfl) (hS476) ?_
        refine wd_take 4 (.bool true) hR rfl (by kernel_rfl) rfl (by kernel_rfl) (fun w _ => by kernel_rfl) (hS476) ?_
        refine wd_take 5 (.bool true) hR rfl (by kernel_rfl) rfl (by kernel_rfl) (fun w _ => by kernel_rfl) (hS476) ?_
        refine wd_take 6 (.bool true) hR rfl (by kernel_rfl) rfl (by kernel_rfl) (fun w _ => by kernel_rfl) (hS476) ?_
        refine wd_take 7 (.bool true) hR rfl (by kernel_rfl) rfl (by kernel_rfl) (fun w _ => by kernel_rfl) (hS476) ?_
        refine wd_take 8 (.bool false) hR rfl (by kernel_rfl) rfl (by kernel_rfl) (fun w _ => by kernel_rfl) (hS476) ?_
        refine wd_take 9 (.bool true) hR rfl (by kernel_rfl) rfl (by kernel_rfl) (fun w _ => by kernel_rfl) (hS476) ?_
        refine wd_take 10 (.bool true) hR rfl (by kernel_rfl) rfl (by kernel_rfl) (fun w _ => by kernel_rfl) (hS476) ?_
        refine wd_take 11 (.bool true) hR rfl (by kernel_rfl) rfl (by kernel_rfl) (fun w _ => by kernel_rfl) (hS476) ?_
        refine wd_take 12 (.agg #[.int .i64 17, .int .i64 27]) hR rfl (by kernel_rfl) rfl (by kernel_rfl) (fun w hS => ex_load rfl (by kernel_rfl) (ld29 (hS.1) (hS.2.1))) (hS476) ?_
        refine wd_take 13 (.agg #[.int .i64 17, .int .i64 27]) hR rfl (by kernel_rfl) rfl (by kernel_rfl) (fun w _ => by kernel_rfl) (hS476) ?_
        refine wd_take 14 (.bool true) hR rfl (by kernel_rfl) rfl (by kernel_rfl) (fun w _ => by kernel_rfl) (hS476) ?_
        refine wd_take 15 (.bool true) hR rfl (by kernel_rfl) rfl (by kernel_rfl) (fun w _ => by kernel_rfl) (hS476) ?_
        refine wd_take 16 (.bool true) hR rfl (by kernel_rfl) rfl (by kernel_rfl) (fun w _ => by kernel_rfl) (hS476) ?_
        refine wd_take 17 (.int .i64 2) hR rfl (by kernel_rfl) rfl (by kernel_rfl) (fun w _ => by kernel_rfl) (hS476) ?_
        refine wd_take 18 (.bool true) hR rfl (by kernel_rfl) rfl (by kernel_rfl) (fun w _ => by kernel_rfl) (hS476) ?_
        refine wd_take 19 (.bool true) hR rfl (by kernel_rfl) rfl (by kernel_rfl) (fun w _ => by kernel_rfl) (hS476) ?_
        refine wd_take 20 (.bool true) hR rfl (by kernel_rfl) rfl (by kernel_rfl) (fun w _ => by kernel_rfl) (hS476) ?_
        refine wd_take 21 (.int .i64 ((Swath.suns Swath.o0 Swath.s0 2).1 : Int)) hR rfl (by kernel_rfl) rfl (by kernel_rfl) (fun w _ => by kernel_rfl) (hS476) ?_
        refine wd_take 22 (.int .i64 ((Swath.suns Swath.o0 Swath.s0 2).2 : Int)) hR rfl (by kernel_rfl) rfl (by kernel_rfl) (fun w _ => by kernel_rfl) (hS476) ?_
        refine wd_take 23 (.bool true) hR rfl (by kernel_rfl) rfl (by kernel_rfl) (fun w _ => ev_dec (show _ = Result.ok (Next.value (Value.bool (decide (((Swath.suns Swath.o0 Swath.s0 2).1 : Int) ≤ ((Swath.suns Swath.o0 Swath.s0 2).2 : Int))))) _ from by kernel_rfl) (of_decide_eq_true (by kernel_rfl))) (hS476) ?_
        refine wd_take 24 (.bool true) hR rfl (by kernel_rfl) rfl (by kernel_rfl) (fun w _ => by kernel_rfl) (hS476) ?_
        refine wd_take 25 (.bool true) hR rfl (by kernel_rfl) rfl (by kernel_rfl) (fun w _ => by kernel_rfl) (hS476) ?_
        refine wd_take 26 (.agg #[.int .i64 200, .int .i64 0, .int .i64 0, .int .i64 20000, .int .i64 10000, .int .i64 0, .int .i64 1]) hR rfl (by kernel_rfl) rfl (by kernel_rfl) (fun w hS => ex_load rfl (by kernel_rfl) (ld26 (hS.2.2.1) (hS.2.2.2.1) (hS.2.2.2.2.1) (hS.2.2.2.2.2.1) (hS.2.2.2.2.2.2.1) (hS.2.2.2.2.2.2.2.1) (hS.2.2.2.2.2.2.2.2.1))) (hS476) ?_
        refine wd_take 27 (.agg #[.int .i64 10, .int .i64 20]) hR rfl (by kernel_rfl) rfl (by kernel_rfl) (fun w hS => ex_load rfl (by kernel_rfl) (ld29 (hS.2.2.2.2.2.2.2.2.2.1) (hS.2.2.2.2.2.2.2.2.2.2))) (hS476) ?_
        refine wd_step 28 hR rfl (by kernel_rfl) (by kernel_rfl) (by kernel_rfl) (sn_call (f := 19) (args := #[.agg #[.int .i64 200, .int .i64 0, .int .i64 0, .int .i64 20000, .int .i64 10000, .int .i64 0, .int .i64 1], .agg #[.int .i64 10, .int .i64 20], .int .i64 4]) (by kernel_rfl) ((sValid_r (r := true) Swath.o0 Swath.s0 4 _ (by kernel_rfl)).mono ?_))
        rintro e w477 ⟨rfl, hb⟩
        replace hE := hE.trans hb
        replace hX463 := hX463.trans hb
        have hs478 := hb.size
        clear hb
        have hS479 := And.intro ((BoxAt.ext (hY467.trans hX463) bO103_0).1) (And.intro ((BoxAt.ext (hY467.trans hX463) bO103_1).1) (And.intro ((BoxAt.ext (hY473.trans hX463) bO1_0).1) (And.intro ((BoxAt.ext (hY473.trans hX463) bO1_1).1) (And.intro ((BoxAt.ext (hY473.trans hX463) bO1_2).1) (And.intro ((BoxAt.ext (hY473.trans hX463) bO1_3).1) (And.intro ((BoxAt.ext (hY473.trans hX463) bO1_4).1) (And.intro ((BoxAt.ext (hY473.trans hX463) bO1_5).1) (And.intro ((BoxAt.ext (hY473.trans hX463) bO1_6).1) (And.intro ((BoxAt.ext (hY472.trans hX463) bO8_0).1) ((BoxAt.ext (hY472.trans hX463) bO8_1).1))))))))))
        refine ⟨_, rfl, hS479, ?_⟩
        refine wd_take 29 (.bool true) hR rfl (by kernel_rfl) rfl (by kernel_rfl) (fun w _ => by kernel_rfl) (hS479) ?_
        refine wd_take 30 (.bool true) hR rfl (by kernel_rfl) rfl (by kernel_rfl) (fun w _ => by kernel_rfl) (hS479) ?_
        refine wd_take 31 (.agg #[.int .i64 200, .int .i64 0, .int .i64 0, .int .i64 20000, .int .i64 10000, .int .i64 0, .int .i64 1]) hR rfl (by kernel_rfl) rfl (by kernel_rfl) (fun w hS => ex_load rfl (by kernel_rfl) (ld26 (hS.2.2.1) (hS.2.2.2.1) (hS.2.2.2.2.1) (hS.2.2.2.2.2.1) (hS.2.2.2.2.2.2.1) (hS.2.2.2.2.2.2.2.1) (hS.2.2.2.2.2.2.2.2.1))) (hS479) ?_
        refine wd_take 32 (.agg #[.int .i64 10, .int .i64 20]) hR rfl (by kernel_rfl) rfl (by kernel_rfl) (fun w hS => ex_load rfl (by kernel_rfl) (ld29 (hS.2.2.2.2.2.2.2.2.2.1) (hS.2.2.2.2.2.2.2.2.2.2))) (hS479) ?_
        refine wd_step 33 hR rfl (by kernel_rfl) (by kernel_rfl) (by kernel_rfl) (sn_call (f := 19) (args := #[.agg #[.int .i64 200, .int .i64 0, .int .i64 0, .int .i64 20000, .int .i64 10000, .int .i64 0, .int .i64 1], .agg #[.int .i64 10, .int .i64 20], .int .i64 5]) (by kernel_rfl) ((sValid_r (r := false) Swath.o0 Swath.s0 5 _ (by kernel_rfl)).mono ?_))
        rintro e w480 ⟨rfl, hb⟩
        replace hE := hE.trans hb
        replace hX463 := hX463.trans hb
        have hs481 := hb.size
        clear hb
        have hS482 := And.intro ((BoxAt.ext (hY467.trans hX463) bO103_0).1) (And.intro ((BoxAt.ext (hY467.trans hX463) bO103_1).1) (And.intro ((BoxAt.ext (hY473.trans hX463) bO1_0).1) (And.intro ((BoxAt.ext (hY473.trans hX463) bO1_1).1) (And.intro ((BoxAt.ext (hY473.trans hX463) bO1_2).1) (And.intro ((BoxAt.ext (hY473.trans hX463) bO1_3).1) (And.intro ((BoxAt.ext (hY473.trans hX463) bO1_4).1) (And.intro ((BoxAt.ext (hY473.trans hX463) bO1_5).1) (And.intro ((BoxAt.ext (hY473.trans hX463) bO1_6).1) (And.intro ((BoxAt.ext (hY472.trans hX463) bO8_0).1) ((BoxAt.ext (hY472.trans hX463) bO8_1).1))))))))))
        refine ⟨_, rfl, hS482, ?_⟩
        refine wd_take 34 (.bool true) hR rfl (by kernel_rfl) rfl (by kernel_rfl) (fun w _ => by kernel_rfl) (hS482) ?_
        refine wd_take 35 (.bool true) hR rfl (by kernel_rfl) rfl (by kernel_rfl) (fun w _ => by kernel_rfl) (hS482) ?_
        refine wd_take 36 (.bool true) hR rfl (by kernel_rfl) rfl (by kernel_rfl) (fun w _ => by kernel_rfl) (hS482) ?_
        refine wd_take 37 (.agg #[.int .i64 200, .int .i64 0, .int .i64 0, .int .i64 20000, .int .i64 10000, .int .i64 0, .int .i64 1]) hR rfl (by kernel_rfl) rfl (by kernel_rfl) (fun w hS => ex_load rfl (by kernel_rfl) (ld26 (hS.2.2.1) (hS.2.2.2.1) (hS.2.2.2.2.1) (hS.2.2.2.2.2.1) (hS.2.2.2.2.2.2.1) (hS.2.2.2.2.2.2.2.1) (hS.2.2.2.2.2.2.2.2.1))) (hS482) ?_
        refine wd_take 38 (.agg #[.int .i64 10, .int .i64 20]) hR rfl (by kernel_rfl) rfl (by kernel_rfl) (fun w hS => ex_load rfl (by kernel_rfl) (ld29 (hS.2.2.2.2.2.2.2.2.2.1) (hS.2.2.2.2.2.2.2.2.2.2))) (hS482) ?_
        refine wd_step 39 hR rfl (by kernel_rfl) (by kernel_rfl) (by kernel_rfl) (sn_newS (us := #[.int .i64 3]) (t := 3) (k := 1) (c := 1) (by kernel_rfl) ?_)
        intro O483 X484 hO hOs hb hbx
        have hzO483 := hO; have hyO483 := hOs; clear hO hOs
        have bO483_0 : BoxAt X484 O483 0 (.int .i64 3) := hbx 0 _ rfl
        clear hbx
        replace hE := hE.trans hb
        replace hX463 := hX463.trans hb
        have hs485 := hb.size
        clear hb
        have lt486 := bO483_0.lt
        have hS487 := And.intro ((BoxAt.ext (hY467.trans hX463) bO103_0).1) (And.intro ((BoxAt.ext (hY467.trans hX463) bO103_1).1) (And.intro ((BoxAt.ext (hY473.trans hX463) bO1_0).1) (And.intro ((BoxAt.ext (hY473.trans hX463) bO1_1).1) (And.intro ((BoxAt.ext (hY473.trans hX463) bO1_2).1) (And.intro ((BoxAt.ext (hY473.trans hX463) bO1_3).1) (And.intro ((BoxAt.ext (hY473.trans hX463) bO1_4).1) (And.intro ((BoxAt.ext (hY473.trans hX463) bO1_5).1) (And.intro ((BoxAt.ext (hY473.trans hX463) bO1_6).1) (And.intro ((BoxAt.ext (hY472.trans hX463) bO8_0).1) ((BoxAt.ext (hY472.trans hX463) bO8_1).1))))))))))
        refine ⟨hS487, ?_⟩
        have hI491 : IntsAt X484 (some ⟨O483, 0, none⟩) ((([3] : List Nat)).map fun y => ((y : Nat) : Int)) := (.inr ⟨O483, 0, rfl, fun i hi => by
          match i, hi with
          | 0, _ => exact bO483_0.1
          | _ + 1, hi => exact absurd hi (by simp)⟩)
        refine wd_step 40 hR rfl (by kernel_rfl) (by kernel_rfl) (by kernel_rfl) (sn_call (f := 15) (args := #[.int .i64 12, .slice (some ⟨O483, 0, none⟩) 1 1]) (by kernel_rfl) ((strip_c (x := 12) (ys := [3]) _ (by decide) hI491 rfl (by decide) (by decide) (Ext.refl _)).mono ?_))
        rintro e w492 ⟨B488, rfl, hn489, hr490, hb⟩
        replace hE := hE.trans hb
        replace hX463 := hX463.trans hb
        replace bO483_0 := BoxAt.ext hb bO483_0
        have hs493 := hb.size
        clear hb
        have lt494 := hr490.lt
        have hS495 := And.intro ((BoxAt.ext (hY467.trans hX463) bO103_0).1) (And.intro ((BoxAt.ext (hY467.trans hX463) bO103_1).1) (And.intro ((BoxAt.ext (hY473.trans hX463) bO1_0).1) (And.intro ((BoxAt.ext (hY473.trans hX463) bO1_1).1) (And.intro ((BoxAt.ext (hY473.trans hX463) bO1_2).1) (And.intro ((BoxAt.ext (hY473.trans hX463) bO1_3).1) (And.intro ((BoxAt.ext (hY473.trans hX463) bO1_4).1) (And.intro ((BoxAt.ext (hY473.trans hX463) bO1_5).1) (And.intro ((BoxAt.ext (hY473.trans hX463) bO1_6).1) (And.intro ((BoxAt.ext (hY472.trans hX463) bO8_0).1) ((BoxAt.ext (hY472.trans hX463) bO8_1).1))))))))))
        refine ⟨_, rfl, hS495, ?_⟩
        refine wd_step 41 hR rfl (by kernel_rfl) (by kernel_rfl) (by kernel_rfl) (sn_call (f := 20) (args := #[.agg #[.int .i64 200, .int .i64 0, .int .i64 0, .int .i64 20000, .int .i64 10000, .int .i64 0, .int .i64 1], .agg #[.int .i64 10, .int .i64 20], .int .i64 2, .agg #[.slice (some ⟨B488, 0, none⟩) 24 24]]) (by kernel_rfl) ((Shows_r (o := Swath.o0) (s := Swath.s0) (lk := 2) (r := true) _ _ (RowsAt.va hr490 (by kernel_rfl)).aa (Ext.refl _) (by kernel_rfl)).mono ?_))
        rintro e w496 ⟨rfl, hb⟩
        replace hE := hE.trans hb
        replace hX463 := hX463.trans hb
        replace bO483_0 := BoxAt.ext hb bO483_0
        replace hr490 := hr490.ext hb
        have hs497 := hb.size
        clear hb
        have hS498 := And.intro ((BoxAt.ext (hY467.trans hX463) bO103_0).1) (And.intro ((BoxAt.ext (hY467.trans hX463) bO103_1).1) (And.intro ((BoxAt.ext (hY473.trans hX463) bO1_0).1) (And.intro ((BoxAt.ext (hY473.trans hX463) bO1_1).1) (And.intro ((BoxAt.ext (hY473.trans hX463) bO1_2).1) (And.intro ((BoxAt.ext (hY473.trans hX463) bO1_3).1) (And.intro ((BoxAt.ext (hY473.trans hX463) bO1_4).1) (And.intro ((BoxAt.ext (hY473.trans hX463) bO1_5).1) (And.intro ((BoxAt.ext (hY473.trans hX463) bO1_6).1) (And.intro ((BoxAt.ext (hY472.trans hX463) bO8_0).1) ((BoxAt.ext (hY472.trans hX463) bO8_1).1))))))))))
        refine ⟨_, rfl, hS498, ?_⟩
        refine wd_take 42 (.bool true) hR rfl (by kernel_rfl) rfl (by kernel_rfl) (fun w _ => by kernel_rfl) (hS498) ?_
        refine wd_take 43 (.bool true) hR rfl (by kernel_rfl) rfl (by kernel_rfl) (fun w _ => by kernel_rfl) (hS498) ?_
        refine wd_take 44 (.agg #[.int .i64 200, .int .i64 0, .int .i64 0, .int .i64 20000, .int .i64 10000, .int .i64 0, .int .i64 1]) hR rfl (by kernel_rfl) rfl (by kernel_rfl) (fun w hS => ex_load rfl (by kernel_rfl) (ld26 (hS.2.2.1) (hS.2.2.2.1) (hS.2.2.2.2.1) (hS.2.2.2.2.2.1) (hS.2.2.2.2.2.2.1) (hS.2.2.2.2.2.2.2.1) (hS.2.2.2.2.2.2.2.2.1))) (hS498) ?_
        refine wd_take 45 (.agg #[.int .i64 10, .int .i64 20]) hR rfl (by kernel_rfl) rfl (by kernel_rfl) (fun w hS => ex_load rfl (by kernel_rfl) (ld29 (hS.2.2.2.2.2.2.2.2.2.1) (hS.2.2.2.2.2.2.2.2.2.2))) (hS498) ?_
        refine wd_step 46 hR rfl (by kernel_rfl) (by kernel_rfl) (by kernel_rfl) (sn_newS (us := #[.int .i64 4]) (t := 3) (k := 1) (c := 1) (by kernel_rfl) ?_)
        intro O499 X500 hO hOs hb hbx
        have hzO499 := hO; have hyO499 := hOs; clear hO hOs
        have bO499_0 : BoxAt X500 O499 0 (.int .i64 4) := hbx 0 _ rfl
        clear hbx
        replace hE := hE.trans hb
        replace hX463 := hX463.trans hb
        replace bO483_0 := BoxAt.ext hb bO483_0
        replace hr490 := hr490.ext hb
        have hs501 := hb.size
        clear hb
        have lt502 := bO499_0.lt
        have hS503 := And.intro ((BoxAt.ext (hY467.trans hX463) bO103_0).1) (And.intro ((BoxAt.ext (hY467.trans hX463) bO103_1).1) (And.intro ((BoxAt.ext (hY473.trans hX463) bO1_0).1) (And.intro ((BoxAt.ext (hY473.trans hX463) bO1_1).1) (And.intro ((BoxAt.ext (hY473.trans hX463) bO1_2).1) (And.intro ((BoxAt.ext (hY473.trans hX463) bO1_3).1) (And.intro ((BoxAt.ext (hY473.trans hX463) bO1_4).1) (And.intro ((BoxAt.ext (hY473.trans hX463) bO1_5).1) (And.intro ((BoxAt.ext (hY473.trans hX463) bO1_6).1) (And.intro ((BoxAt.ext (hY472.trans hX463) bO8_0).1) ((BoxAt.ext (hY472.trans hX463) bO8_1).1))))))))))
        refine ⟨hS503, ?_⟩
        have hI507 : IntsAt X500 (some ⟨O499, 0, none⟩) ((([4] : List Nat)).map fun y => ((y : Nat) : Int)) := (.inr ⟨O499, 0, rfl, fun i hi => by
          match i, hi with
          | 0, _ => exact bO499_0.1
          | _ + 1, hi => exact absurd hi (by simp)⟩)
        refine wd_step 47 hR rfl (by kernel_rfl) (by kernel_rfl) (by kernel_rfl) (sn_call (f := 15) (args := #[.int .i64 12, .slice (some ⟨O499, 0, none⟩) 1 1]) (by kernel_rfl) ((strip_c (x := 12) (ys := [4]) _ (by decide) hI507 rfl (by decide) (by decide) (Ext.refl _)).mono ?_))
        rintro e w508 ⟨B504, rfl, hn505, hr506, hb⟩
        replace hE := hE.trans hb
        replace hX463 := hX463.trans hb
        replace bO483_0 := BoxAt.ext hb bO483_0
        replace hr490 := hr490.ext hb
        replace bO499_0 := BoxAt.ext hb bO499_0
        have hs509 := hb.size
        clear hb
        have lt510 := hr506.lt
        have hS511 := And.intro ((BoxAt.ext (hY467.trans hX463) bO103_0).1) (And.intro ((BoxAt.ext (hY467.trans hX463) bO103_1).1) (And.intro ((BoxAt.ext (hY473.trans hX463) bO1_0).1) (And.intro ((BoxAt.ext (hY473.trans hX463) bO1_1).1) (And.intro ((BoxAt.ext (hY473.trans hX463) bO1_2).1) (And.intro ((BoxAt.ext (hY473.trans hX463) bO1_3).1) (And.intro ((BoxAt.ext (hY473.trans hX463) bO1_4).1) (And.intro ((BoxAt.ext (hY473.trans hX463) bO1_5).1) (And.intro ((BoxAt.ext (hY473.trans hX463) bO1_6).1) (And.intro ((BoxAt.ext (hY472.trans hX463) bO8_0).1) ((BoxAt.ext (hY472.trans hX463) bO8_1).1))))))))))
        refine ⟨_, rfl, hS511, ?_⟩
        refine wd_step 48 hR rfl (by kernel_rfl) (by kernel_rfl) (by kernel_rfl) (sn_call (f := 20) (args := #[.agg #[.int .i64 200, .int .i64 0, .int .i64 0, .int .i64 20000, .int .i64 10000, .int .i64 0, .int .i64 1], .agg #[.int .i64 10, .int .i64 20], .int .i64 2, .agg #[.slice (some ⟨B504, 0, none⟩) 24 24]]) (by kernel_rfl) ((Shows_r (o := Swath.o0) (s := Swath.s0) (lk := 2) (r := false) _ _ (RowsAt.va hr506 (by kernel_rfl)).aa (Ext.refl _) (by kernel_rfl)).mono ?_))
        rintro e w512 ⟨rfl, hb⟩
        replace hE := hE.trans hb
        replace hX463 := hX463.trans hb
        replace bO483_0 := BoxAt.ext hb bO483_0
        replace hr490 := hr490.ext hb
        replace bO499_0 := BoxAt.ext hb bO499_0
        replace hr506 := hr506.ext hb
        have hs513 := hb.size
        clear hb
        have hS514 := And.intro ((BoxAt.ext (hY467.trans hX463) bO103_0).1) (And.intro ((BoxAt.ext (hY467.trans hX463) bO103_1).1) (And.intro ((BoxAt.ext (hY473.trans hX463) bO1_0).1) (And.intro ((BoxAt.ext (hY473.trans hX463) bO1_1).1) (And.intro ((BoxAt.ext (hY473.trans hX463) bO1_2).1) (And.intro ((BoxAt.ext (hY473.trans hX463) bO1_3).1) (And.intro ((BoxAt.ext (hY473.trans hX463) bO1_4).1) (And.intro ((BoxAt.ext (hY473.trans hX463) bO1_5).1) (And.intro ((BoxAt.ext (hY473.trans hX463) bO1_6).1) (And.intro ((BoxAt.ext (hY472.trans hX463) bO8_0).1) ((BoxAt.ext (hY472.trans hX463) bO8_1).1))))))))))
        refine ⟨_, rfl, hS514, ?_⟩
        refine wd_take 49 (.bool true) hR rfl (by kernel_rfl) rfl (by kernel_rfl) (fun w _ => by kernel_rfl) (hS514) ?_
        refine wd_take 50 (.bool true) hR rfl (by kernel_rfl) rfl (by kernel_rfl) (fun w _ => by kernel_rfl) (hS514) ?_
        refine wd_take 51 (.bool true) hR rfl (by kernel_rfl) rfl (by kernel_rfl) (fun w _ => by kernel_rfl) (hS514) ?_
        refine wd_end hL hR hK (by kernel_rfl) ?_
        refine qw_then ?_
        refine cw_clean [0] (ws' := [(0, .bool true)]) (by kernel_rfl) (fun L => ?_)
        refine cw_ret ?_
        refine qw_ret [.bool true] rfl ⟨(by kernel_rfl), trivial⟩ ?_
        exact ⟨rfl, hE⟩

end Go.Proofs.YtdjjkhefdalokaaDoor

/- The distance of two cells, and what is near an area. Plain mathematics. -/
namespace Go.Proofs.YtdjjkhefdalokaaDoor
namespace Globe

end Globe
end Go.Proofs.YtdjjkhefdalokaaDoor

/- What exposures show: longer ones, other looks, less slack, all delays. -/
namespace Go.Proofs.YtdjjkhefdalokaaDoor
namespace Swath
open Globe
theorem has_show {o : Orb} (h : Orb.ok o = true) (lk u : Int) {x y : Nat} : ∀ n, (hasL (showL o lk u n) x y = true ↔ ∃ i : Nat, i < n ∧ x = sx o lk (u + i) ∧ y = Orb.cy o (u + i))
  | 0 => by
    rw [show showL o lk u 0 = zeroL from rfl, has_zero]
    simp
  | n + 1 => by
    rw [show showL o lk u (n + 1) = putL (showL o lk u n) (sx o lk (u + n)) (Orb.cy o (u + n)) from rfl, has_put (by rw [len_of_valid (show_valid h lk u n)]; exact Orb.cy_lt h _)]
    rw [Bool.or_eq_true, has_show h lk u n, Bool.and_eq_true, decide_eq_true_eq, decide_eq_true_eq]
    constructor
    · rintro (⟨i, hi, hx, hy⟩ | ⟨hx, hy⟩)
      · exact ⟨i, by omega, hx, hy⟩
      · exact ⟨n, by omega, hx.symm, hy.symm⟩
    · rintro ⟨i, hi, hx, hy⟩
      rcases Nat.lt_or_ge i n with q | q
      · exact .inl ⟨i, q, hx, hy⟩
      · obtain rfl : i = n := by omega
        exact .inr ⟨hx.symm, hy.symm⟩
theorem has_foldU {A : Nat → List Int} {x y : Nat} (hy : y < 24) : ∀ k, (hasL (foldU A k) x y = true ↔ ∃ j, j < k ∧ hasL (A j) x y = true)
  | 0 => by rw [show foldU A 0 = zeroL from rfl, has_zero]; simp
  | 1 => by
    rw [show foldU A 1 = A 0 from rfl]
    refine ⟨fun h => ⟨0, by omega, h⟩, fun ⟨j, hj, h⟩ => ?_⟩
    obtain rfl : j = 0 := by omega
    exact h
  | k + 2 => by
    rw [show foldU A (k + 2) = unionL (foldU A (k + 1)) (A (k + 1)) from rfl, has_union hy, Bool.or_eq_true, has_foldU hy (k + 1)]
    constructor
    · rintro (⟨j, hj, h⟩ | h)
      · exact ⟨j, by omega, h⟩
      · exact ⟨k + 1, by omega, h⟩
    · rintro ⟨j, hj, h⟩
      rcases Nat.lt_or_ge j (k + 1) with q | q
      · exact .inl ⟨j, q, h⟩
      · obtain rfl : j = k + 1 := by omega
        exact .inr h
theorem has_foldM {A : Nat → List Int} {x y : Nat} (hy : y < 24) : ∀ k, (hasL (foldM A (k + 1)) x y = true ↔ ∀ j, j < k + 1 → hasL (A j) x y = true)
  | 0 => by
    rw [show foldM A (0 + 1) = A 0 from rfl]
    refine ⟨fun h j hj => ?_, fun h => h 0 (by omega)⟩
    obtain rfl : j = 0 := by omega
    exact h
  | k + 1 => by
    rw [show foldM A (k + 1 + 1) = meetL (foldM A (k + 1)) (A (k + 1)) from rfl, has_meet hy, Bool.and_eq_true, has_foldM hy k]
    constructor
    · rintro ⟨h1, h2⟩ j hj
      rcases Nat.lt_or_ge j (k + 1) with q | q
      · exact h1 j q
      · obtain rfl : j = k + 1 := by omega
        exact h2
    · intro h
      exact ⟨fun j hj => h j (by omega), h (k + 1) (by omega)⟩
theorem lates_pos {o : Orb} (h : Orb.ok o = true) : 0 < lates o := by have := Orb.ok_t.1 h; unfold lates; omega
theorem has_can {o : Orb} {s : Int × Int} {lk : Int} {x y : Nat} (hy : y < 24) : hasL (canL o s lk) x y = true ↔ ∃ j, j < lates o ∧ hasL (areaJ o s lk j) x y = true := has_foldU hy _
theorem has_sure {o : Orb} (h : Orb.ok o = true) {s : Int × Int} {lk : Int} {x y : Nat} (hy : y < 24) : hasL (sureL o s lk) x y = true ↔ ∀ j, j < lates o → hasL (areaJ o s lk j) x y = true := by
  have := lates_pos h
  unfold sureL
  obtain ⟨k, hk⟩ : ∃ k, lates o = k + 1 := ⟨lates o - 1, by omega⟩
  rw [hk]; exact has_foldM hy k
/-- Less slack. -/
def slack (o : Orb) (m : Int) : Orb := ⟨o.p, o.f, o.lo, o.hi, o.nd, o.tn, m⟩
def mins (s : Int × Int) : Nat := (s.2 - s.1).toNat
section
variable {o : Orb} {s : Int × Int} {lk : Int} (hh : ∀ d i, -90 ≤ hgt o s lk d i ∧ hgt o s lk d i ≤ 90) (h0 : 0 < lates o) (h1 : 0 < mins s)
include hh h0 h1
end
end Swath
end Go.Proofs.YtdjjkhefdalokaaDoor

/- The cells of an area are ascending; the area of them, one after the other. Plain mathematics. -/
namespace Go.Proofs.YtdjjkhefdalokaaDoor
namespace Globe

def before (p q : Nat × Nat) : Prop := p.2 < q.2 ∨ (p.2 = q.2 ∧ p.1 < q.1)
theorem all_sorted : ∀ n, (allCells n).Pairwise before
  | 0 => List.Pairwise.nil
  | n + 1 => by
    have ih := all_sorted n
    unfold allCells at ih ⊢
    rw [List.range_succ (n := n), List.flatMap_append, List.pairwise_append]
    refine ⟨ih, ?_, ?_⟩
    · simp only [List.flatMap_cons, List.flatMap_nil, List.append_nil]
      rw [List.pairwise_map]
      exact List.pairwise_lt_range.imp fun h => .inr ⟨rfl, h⟩
    · intro p hp q hq
      have h1 := (mem_all (n := n)).1 hp
      simp only [List.flatMap_cons, List.flatMap_nil, List.append_nil, List.mem_map, List.mem_range] at hq
      obtain ⟨x, _, rfl⟩ := hq
      exact .inl h1.2
theorem cells_sorted (l : List Int) (n : Nat) : (cellsTo l n).Pairwise before := by
  rw [cellsTo_filter]; exact (all_sorted n).filter _
end Globe
end Go.Proofs.YtdjjkhefdalokaaDoor

/- Contracts of package globe: Has, Near, Same. -/
namespace Go.Proofs.YtdjjkhefdalokaaDoor
open Go.RowKit

set_option maxHeartbeats 1000000 in
theorem Has_y (b o c : Nat) (l : List Int) (x y : Nat) (w : World) (h : ∀ i, i < 24 → w.cell? ⟨b, o + i, none⟩ = some (.int .i64 (Globe.nth l i))) (hv : Globe.validL l = true) (hx : x < 48) (hy : y < 24) :
    Calls Tryd.prog 12 #[.agg #[.slice (some ⟨b, o, none⟩) 24 c], .agg #[.int .i64 (x : Int), .int .i64 (y : Int)]] w fun e w' => e = .returned (.bool (Globe.hasL l x y)) ∧ Ext w w' := by
  have hR := Globe.rowN_lt hv y
  have hbl := IntsAt.lt h
  have hc : w.cell? ⟨b, o + y, none⟩ = some (.int .i64 (Globe.rowN l y : Nat)) := by rw [← Globe.rowN_cast hv]; exact h y hy
  have H := Lib.hid h; clear h
  have Hv := Lib.hid hv; clear hv
  have hb1 := bit_and1 (Globe.rowN l y) x (by omega)
  rw [Globe.rowN_bit] at hb1
  generalize Globe.rowN l y = R at *
  have hvc : Globe.vcB (x : Int) (y : Int) = true := Globe.vcB_t.2 (by omega)
  have y0 : (0 : Int) ≤ (y : Int) := by omega
  have y1 : (y : Int) < 24 := by omega
  have x0 : (0 : Int) ≤ (x : Int) := by omega
  cases hbit : Globe.hasL l x y
  all_goals
    rw [hbit] at hb1
    simp only [if_true, Bool.false_eq_true, if_false] at hb1
    clear hbit
    go_enter Tryd.func12, Tryd.ntmps12
    go_wp2_with fail
    go_region_held3 (fun w' => Ext w w' ∧ w'.cell? ⟨w.heap.size, 0, none⟩ = some (.slice (some ⟨b, o, none⟩) 24 c) ∧ w'.cell? ⟨w.heap.size + 1, 0, none⟩ = some (.int .i64 (x : Int)) ∧ w'.cell? ⟨w.heap.size + 1, 1, none⟩ = some (.int .i64 (y : Int)) ∧ w'.cell? ⟨b, o + y, none⟩ = some (.int .i64 (R : Int)))
      ((first | ((repeat' (with_reducible apply And.intro)) <;> (first | (with_reducible assumption) | (simp [go_sem]; done) | ((repeat' (first | (with_reducible assumption) | (with_reducible exact Ext.refl _) | (with_reducible refine Ext.alloc ?_ _) | (with_reducible refine Ext.drew ?_) | (with_reducible refine Ext.drewN ?_ _) | (with_reducible refine Ext.setCell ?_ ?_ _) | (with_reducible refine Ext.trans ?_ (by assumption)) | go_size)); done) | (refine Ext.cell ?_ (by with_reducible assumption); (repeat' (first | (with_reducible assumption) | (with_reducible exact Ext.refl _) | (with_reducible refine Ext.alloc ?_ _) | (with_reducible refine Ext.drew ?_) | (with_reducible refine Ext.drewN ?_ _) | (with_reducible refine Ext.setCell ?_ ?_ _) | (with_reducible refine Ext.trans ?_ (by assumption)) | go_size)); done))) | (rcases (show Ext w _ ∧ _ from by with_reducible assumption) with ⟨_, _, _, _, _⟩; (repeat' (with_reducible apply And.intro)) <;> (first | (with_reducible assumption) | ((repeat' (first | (with_reducible assumption) | (with_reducible exact Ext.refl _) | (with_reducible refine Ext.alloc ?_ _) | (with_reducible refine Ext.drew ?_) | (with_reducible refine Ext.drewN ?_ _) | (with_reducible refine Ext.setCell ?_ ?_ _) | (with_reducible refine Ext.trans ?_ (by assumption)) | go_size)); done) | (refine Ext.cell ?_ (by with_reducible assumption); (repeat' (first | (with_reducible assumption) | (with_reducible exact Ext.refl _) | (with_reducible refine Ext.alloc ?_ _) | (with_reducible refine Ext.drew ?_) | (with_reducible refine Ext.drewN ?_ _) | (with_reducible refine Ext.setCell ?_ ?_ _) | (with_reducible refine Ext.trans ?_ (by assumption)) | go_size)); done)))))
      (first | (go_at_call 31; refine (Valid_y _ _ _ _ _ (fun i hi => Ext.cell (And.left (a := Ext w _) (by assumption)) (H.out i hi)) Hv.out).mono ?_; rintro e w1 ⟨rfl, hb⟩) | (go_at_call 33; refine (ValidCell_v _ _ _ (by assumption)).mono ?_; rintro e w1 ⟨rfl, hb⟩))
    go_wp2
    rcases (show Ext w _ ∧ _ from by with_reducible assumption) with ⟨hE, -⟩
    go_ret
    exact ⟨rfl, by (repeat' (first | (with_reducible assumption) | (with_reducible exact Ext.refl _) | (with_reducible refine Ext.alloc ?_ _) | (with_reducible refine Ext.drew ?_) | (with_reducible refine Ext.drewN ?_ _) | (with_reducible refine Ext.setCell ?_ ?_ _) | (with_reducible refine Ext.trans ?_ (by assumption)) | go_size))⟩
end Go.Proofs.YtdjjkhefdalokaaDoor

/- Contracts of package globe: TrailingZeros, cells, Count. -/
namespace Go.Proofs.YtdjjkhefdalokaaDoor
open Go.RowKit Go.Shelf

attribute [local go_sem] Oper.semAt_some

/-- The table of package math/bits, as its initialiser lays it. -/
def Tab (w : World) : Prop := 1 < w.heap.size ∧ ∀ j, j < 64 → w.cell? ⟨1, j, none⟩ = some (.int .u8 (Lib.deBruijn64tab.getD j 0))
theorem Tab.ext {w w' : World} (h : Tab w) (hE : Ext w w') : Tab w' := ⟨Nat.lt_of_lt_of_le h.1 hE.size, fun j hj => hE.cell (h.2 j hj)⟩

theorem tz_neg (x : Nat) (h0 : x ≠ 0) (hx : x < 18446744073709551616) : IntKind.u64.wrap (-(x : Int)) = ((18446744073709551616 - x : Nat) : Int) := by rw [IntKind.wrap_u64]; omega
theorem tz_key (x a : Nat) (h0 : x ≠ 0) (hx : x < 18446744073709551616) (hlow : x &&& (18446744073709551616 - x) = a) :
    IntKind.u64.wrap (bits BinOp.and IntKind.u64 (x : Int) (IntKind.u64.wrap (-(x : Int))) * 285870213051353865) / 288230376151711744 = ((a * 285870213051353865 % 18446744073709551616 / 288230376151711744 : Nat) : Int) := by
  rw [tz_neg x h0 hx, bits_and_u64_nat x _ hx (by omega), hlow, IntKind.wrap_u64]
  omega

set_option maxHeartbeats 1000000 in
theorem tz64_core (x k idx : Nat) (w : World) (hx0 : ((x : Int) == 0) = false)
    (key : IntKind.u64.wrap (bits BinOp.and IntKind.u64 (x : Int) (IntKind.u64.wrap (-(x : Int))) * 285870213051353865) / 288230376151711744 = (idx : Int))
    (hi : idx < 64) (hk : k < 64) (hcell : w.cell? ⟨1, idx, none⟩ = some (.int .u8 k)) :
    Calls Tryd.prog 71 #[.int .u64 x] w fun e w' => e = .returned (.int .i64 k) ∧ w = w' := by
  go_enter Tryd.func71, Tryd.ntmps71
  go_wp2_with (simp only [key])
  go_ret
  exact ⟨rfl, rfl⟩

theorem TrailingZeros64_c (R : Nat) (w : World) (h0 : R ≠ 0) (h : R < 281474976710656) (hT : Tab w) :
    Calls Tryd.prog 71 #[.int .u64 (R : Int)] w fun e w' => e = .returned (.int .i64 (Lib.ctz 64 R : Nat)) ∧ w = w' := by
  obtain ⟨hlow, hk⟩ := Lib.lowest_bit 64 R h0 (by omega)
  obtain ⟨hi, htab⟩ := Lib.deBruijn64_at _ hk
  have hcell := hT.2 _ hi
  rw [htab] at hcell
  exact tz64_core R _ _ w (by simp; omega) (tz_key R _ h0 (by omega) hlow) hi hk hcell

theorem TrailingZeros_c (R : Nat) (w : World) (h0 : R ≠ 0) (h : R < 281474976710656) (hT : Tab w) :
    Calls Tryd.prog 54 #[.int .u64 (R : Int)] w fun e w' => e = .returned (.int .i64 (Lib.ctz 64 R : Nat)) ∧ w = w' := by
  go_enter Tryd.func54, Tryd.ntmps54
  go_wp2_with (go_at_call 71; refine (TrailingZeros64_c _ _ h0 h hT).mono ?_; rintro e w' ⟨rfl, rfl⟩)
  go_ret
  exact ⟨rfl, rfl⟩

end Go.Proofs.YtdjjkhefdalokaaDoor

/- Contracts of package globe: the iterator over the cells of a valid area. -/
namespace Go.Proofs.YtdjjkhefdalokaaDoor
open Go.RowKit Go.Shelf

attribute [local go_sem] Oper.semAt_some

theorem Tab.keep {n₀ : Nat} {X : Nat → Prop} {w w' : World} (h : Tab w) (hn : 1 < n₀) (hx : ¬ X 1) (hb : KeepX n₀ X w w') : Tab w' :=
  ⟨Nat.lt_of_lt_of_le h.1 hb.size, fun j hj => (hb.cell hn hx).trans (h.2 j hj)⟩

theorem cells_c (a : Option Addr) (k c : Nat) (w : World) : Calls Tryd.prog 32 #[.agg #[.slice a k c]] w fun e w' => e = .returned (.func (.func 53) #[] #[.pointer (some ⟨w.heap.size, 0, none⟩)]) ∧ w.alloc (.cells #[.slice a k c] 39) = w' := by
  go_enter Tryd.func32, Tryd.ntmps32
  go_wp2
  go_ret
  exact ⟨rfl, rfl⟩

/-- What a cell is handed on as. -/
def encCell (p : Nat × Nat) : Array Value := #[.agg #[.int .i64 (p.1 : Int), .int .i64 (p.2 : Int)]]

theorem and_pred_i64 (R : Nat) (h0 : 0 < R) (h : R < 281474976710656) : bits .and .i64 (R : Int) ((R : Int) - 1) = ((R &&& (R - 1) : Nat) : Int) := by
  rw [show ((R : Int) - 1) = ((R - 1 : Nat) : Int) by omega]
  exact (bits_nat .i64 62 (by decide) (fun n h1 h2 => by rw [IntKind.wrap_i64]; omega) R (R - 1) (by omega) (by omega)).1

set_option maxHeartbeats 2000000 in
theorem cells_stops (n : Nat) (Bn b off c n₀ : Nat) (X : Nat → Prop) (l : List Int) (w : World) (hl : Globe.validL l = true) (hB : Bn < n₀) (hBX : ¬ X Bn) (hb : b < n₀) (hbX : ¬ X b) (hg : 1 < n₀) (hgX : ¬ X 1) (hn : n₀ ≤ w.heap.size)
    (hBn : w.cell? ⟨Bn, 0, none⟩ = some (.slice (some ⟨b, off, none⟩) 24 c)) (hr : ∀ i, i < 24 → w.cell? ⟨b, off + i, none⟩ = some (.int .i64 (Globe.nth l i))) (hT : Tab w) :
    SeqStopsK Fence.wide n Tryd.prog 53 #[.pointer (some ⟨Bn, 0, none⟩)] encCell (KeepX n₀ X) (fun xs => xs = Globe.cellsTo l 24) (fun pre => pre <+: Globe.cellsTo l 24) (Globe.cellsTo l 24).length w := by
  intro ll J Jx W hW hJ hJx hY hJ0
  obtain ⟨hlen, hrow⟩ := Globe.validL_t.1 hl
  have hW' : KeepX n₀ X w W := KeepX.of_below (hW.mono hn)
  refine callsIn_of_wp Tryd.func53 rfl trivial ?_ rfl
  simp only [Tryd.ntmps53, List.size_toArray, List.length_cons, List.length_nil, Nat.reduceAdd, Nat.reduceSub, Array.replicate_succ, Array.replicate_zero, List.push_toArray, List.append_toArray, List.nil_append, List.cons_append]
  have hBW : W.cell? ⟨Bn, 0, none⟩ = some (.slice (some ⟨b, off, none⟩) 24 c) := (hW'.cell hB hBX).trans hBn
  have Hr : Hid (∀ i, i < 24 → W.cell? ⟨b, off + i, none⟩ = some (.int .i64 (Globe.nth l i))) := fun i hi => (hW'.cell hb hbX).trans (hr i hi)
  have HT := Lib.hid (hT.keep hg hgX hW')
  have HY := Lib.hid hY
  have Hrow := Lib.hid hrow
  clear hBn hr hT hY hrow hl
  gi_wp2
  gi_loopw [9] (fun p wr => ∃ y : Nat, y ≤ 24 ∧ p = .int .i64 y ∧ J (Globe.cellsTo l y) wr ∧ KeepX n₀ X W wr) (fun p _ => 24 - (intOf p).toNat)
  case atStart => exact ⟨0, by omega, rfl, hJ0, KeepX.refl _ _ _⟩
  case round =>
    obtain ⟨y, hy, rfl, hJy, hbw⟩ := hrel
    clear hJ0 hBW
    by_cases hlt : y < 24
    · have hc : wr.cell? ⟨b, off + y, none⟩ = some (.int .i64 (Globe.nth l y)) := (hbw.cell hb hbX).trans (Hr.out y hlt)
      obtain ⟨hR0, hR1⟩ := Hrow.out _ (Globe.nth_mem (l := l) (i := y) (by omega))
      have hy0 : (0 : Int) ≤ (y : Int) := by omega
      have hdy : decide ((y : Int) < 24) = true := by simp; omega
      gi_wp2
      obtain ⟨R0, hR0e⟩ : ∃ R0 : Nat, Globe.nth l y = (R0 : Int) := ⟨(Globe.nth l y).toNat, by omega⟩
      have HR0 := Lib.hid hR0e
      rw [hR0e]
      clear hR0e hc
      obtain ⟨wo, rfl⟩ : ∃ wo : World, wo = wr := ⟨_, rfl⟩
      gi_loopw [4] (fun p wr => ∃ (R : Nat) (done : List (Nat × Nat)), R < 281474976710656 ∧ p = .int .i64 R ∧ Hid (done ++ (Globe.bitsN R).map (fun x => (x, y)) = Globe.rowCells l y) ∧ J (Globe.cellsTo l y ++ done) wr ∧ KeepX n₀ X W wr) (fun p _ => (intOf p).toNat)
      case atStart => exact ⟨R0, [], by have := HR0.out; omega, rfl, by show _ = _; rw [Globe.rowCells, HR0.out]; rfl, by simpa using hJy, hbw⟩
      case round =>
        obtain ⟨R, done, hR, rfl, Hd, hJd, hbd⟩ := hrel
        by_cases hz : R = 0
        · subst hz
          gi_wp2
          go_roundw
          case rel => exact ⟨y + 1, by omega, by go_num, by rw [Globe.cellsTo_succ, ← Hd.out]; simpa [Globe.bitsN_zero] using hJd, hbd⟩
          case measure => simp [intOf]; omega
        · have hz0 : ((R : Int) != 0) = true := by simp; omega
          have hTr := HT.out.keep hg hgX hbd
          have hst := Globe.bitsN_step R hz hR
          have hd := Hd.out
          rw [hst, List.map_cons] at hd
          obtain ⟨hm1, hm2⟩ := Globe.cells_mid (by omega) hd
          obtain ⟨fn, tmps, assign, body, hyy, hRd⟩ := HY.out (Globe.cellsTo l y ++ done) (Lib.ctz 64 R, y) wr hJd hm1
          dsimp only [encCell] at hyy
          have Hd2 := Lib.hid hd; clear hd hm1 hst
          have Hm2 := Lib.hid hm2; clear hm2
          have hand := and_pred_i64 R (by omega) hR
          have hR2 := Globe.and_pred_lt R hR
          have hR3 := Globe.and_pred_less R hz
          gi_wp2_with (refine ⟨trivial, wide_depth, ?_⟩; gi_at_call 54; refine (callsIn_wide.2 (TrailingZeros_c R _ hz hR hTr)).mono ?_; rintro e w' ⟨rfl, rfl⟩)
          refine ⟨wide_depth, hRd.mono ?_⟩
          rintro e W3 (⟨rfl, hJ3, hk3⟩ | ⟨rfl, hJx3⟩)
          · gi_wp2
            go_roundw
            case rel => exact ⟨R &&& (R - 1), done ++ [(Lib.ctz 64 R, y)], hR2, rfl, by show _ = _; rw [List.append_assoc]; exact Hd2.out, by rw [← List.append_assoc]; exact hJ3, hbd.trans hk3⟩
            case measure => simp [intOf]; omega
          · gi_wp2
            refine bodyPost_ret (results_none rfl _ _ _) rfl ?_
            exact ⟨⟨_, rfl⟩, .inr ⟨_, Hm2.out, hJx3⟩⟩
    · obtain rfl : y = 24 := by omega
      gi_wp2
      go_end0
      exact ⟨⟨_, rfl⟩, by first | exact .inl hJy | exact .inl ⟨_, rfl, hJy⟩⟩

end Go.Proofs.YtdjjkhefdalokaaDoor

/- Contracts of package globe: Count. -/
namespace Go.Proofs.YtdjjkhefdalokaaDoor
open Go.RowKit Go.Shelf

attribute [local go_sem] Oper.semAt_some

theorem Count_no (a : Option Addr) (l : List Int) (c : Nat) (w : World) (h : IntsAt w a l) (hl : l.length ≤ 140737488355328) (hv : Globe.validL l = false) :
    Calls Tryd.prog 11 #[.agg #[.slice a l.length c]] w fun e w' => e = .returned (.int .i64 0) ∧ Ext w w' := by
  have H := Lib.hid h; clear h
  go_enter Tryd.func11, Tryd.ntmps11
  go_wp2_with (go_at_call 31; refine (Valid_c _ _ _ _ (H.out.ext (by (repeat' (first | (with_reducible assumption) | (with_reducible exact Ext.refl _) | (with_reducible refine Ext.alloc ?_ _) | (with_reducible refine Ext.drew ?_) | (with_reducible refine Ext.drewN ?_ _) | (with_reducible refine Ext.setCell ?_ ?_ _) | (with_reducible refine Ext.trans ?_ (by assumption)) | go_size)))) hl).mono ?_; rintro e w1 ⟨rfl, hb⟩; have hc := hb.cellE; have hf := hb.frozenE; have hz := hb.size; have ha := alloc_keeps w1; (try simp only [World.size_alloc] at hc hf hz); (try simp only [World.size_setCell] at hc hf hz); (try simp only [World.size_drew] at hc hf hz))
  go_ret
  exact ⟨rfl, by (repeat' (first | (with_reducible assumption) | (with_reducible exact Ext.refl _) | (with_reducible refine Ext.alloc ?_ _) | (with_reducible refine Ext.drew ?_) | (with_reducible refine Ext.drewN ?_ _) | (with_reducible refine Ext.setCell ?_ ?_ _) | (with_reducible refine Ext.trans ?_ (by assumption)) | go_size))⟩

set_option maxHeartbeats 2000000 in
theorem Count_yes (b off c : Nat) (l : List Int) (w : World) (h : ∀ i, i < l.length → w.cell? ⟨b, off + i, none⟩ = some (.int .i64 (Globe.nth l i))) (hv : Globe.validL l = true) (hT : Tab w) :
    Calls Tryd.prog 11 #[.agg #[.slice (some ⟨b, off, none⟩) l.length c]] w fun e w' => e = .returned (.int .i64 (Globe.cellsTo l 24).length) ∧ Ext w w' := by
  have hl24 := (Globe.validL_t.1 hv).1
  have H : Hid (IntsAt w (some ⟨b, off, none⟩) l) := .inr ⟨b, off, rfl, h⟩
  have H2 := Lib.hid h; clear h
  have Hl := Lib.hid hl24
  refine (callsIn_wide (n := 3)).1 ?_
  refine callsIn_of_wp_marks Tryd.func11 rfl trivial ?_ rfl
  simp only [Tryd.ntmps11, List.size_toArray, List.length_cons, List.length_nil, Nat.reduceAdd, Nat.reduceSub, Array.replicate_succ, Array.replicate_zero, List.push_toArray, List.append_toArray, List.nil_append, List.cons_append]
  refine wpIn_wide.2 ?_
  have hl : l.length ≤ 140737488355328 := by omega
  clear hl24
  go_wp2_with (first | (go_at_call 31; refine (Valid_c _ _ _ _ (H.out.ext (by (repeat' (first | (with_reducible assumption) | (with_reducible exact Ext.refl _) | (with_reducible refine Ext.alloc ?_ _) | (with_reducible refine Ext.drew ?_) | (with_reducible refine Ext.drewN ?_ _) | (with_reducible refine Ext.setCell ?_ ?_ _) | (with_reducible refine Ext.trans ?_ (by assumption)) | go_size)))) hl).mono ?_; rintro e w1 ⟨rfl, hb⟩; have hc := hb.cellE; have hf := hb.frozenE; have hz := hb.size; have ha := alloc_keeps w1; (try simp only [World.size_alloc] at hc hf hz); (try simp only [World.size_setCell] at hc hf hz); (try simp only [World.size_drew] at hc hf hz)) | (go_at_call 32; refine (cells_c _ _ _ _).mono ?_; rintro e w' ⟨rfl, rfl⟩))
  obtain ⟨W0, hW0⟩ : ∃ W0, W0 = w1.alloc (.cells #[.slice (some ⟨b, off, none⟩) l.length c] 39) := ⟨_, rfl⟩
  have hzB : w1.heap.size < W0.heap.size := by rw [hW0]; simp
  have hE1 : Ext w1 W0 := by rw [hW0]; (repeat' (first | (with_reducible assumption) | (with_reducible exact Ext.refl _) | (with_reducible refine Ext.alloc ?_ _) | (with_reducible refine Ext.drew ?_) | (with_reducible refine Ext.drewN ?_ _) | (with_reducible refine Ext.setCell ?_ ?_ _) | (with_reducible refine Ext.trans ?_ (by assumption)) | go_size))
  have hEw : Ext w w1 := by (repeat' (first | (with_reducible assumption) | (with_reducible exact Ext.refl _) | (with_reducible refine Ext.alloc ?_ _) | (with_reducible refine Ext.drew ?_) | (with_reducible refine Ext.drewN ?_ _) | (with_reducible refine Ext.setCell ?_ ?_ _) | (with_reducible refine Ext.trans ?_ (by assumption)) | go_size))
  have hE0 : Ext w W0 := hEw.trans hE1
  have c3 : w1.cell? ⟨w.heap.size + 1, 0, none⟩ = some (.int .i64 0) := hb.cell (by simp [go_sem])
  have f3 : W0.frozen? ⟨w.heap.size + 1, 0, none⟩ = false := hE1.free c3 (hb.free (v := .int .i64 0) (by simp [go_sem]) (by simp [go_sem]))
  replace c3 := hE1.cell c3
  have cB : W0.cell? ⟨w1.heap.size, 0, none⟩ = some (.slice (some ⟨b, off, none⟩) 24 c) := by rw [hW0, ← Hl.out]; simp [go_sem]
  have hr : ∀ i, i < 24 → W0.cell? ⟨b, off + i, none⟩ = some (.int .i64 (Globe.nth l i)) := fun i hi => hE0.cell (H2.out i (by rw [Hl.out]; exact hi))
  have hbs : b < w.heap.size := World.block_lt_of_cell? w _ (H2.out 0 (by rw [Hl.out]; decide))
  have hgs := hT.1
  have hT0 := hT.ext hE0
  rw [← hW0]
  clear hW0 hc hf hb
  refine wpIn_wide (n := 3).1 ?_
  refine wpIn_rangeFunc_ownF (F := Fence.wide) rfl (by omega) (gf := 53) (lb := #[.pointer (some ⟨w1.heap.size, 0, none⟩)]) rfl trivial (enters_of Tryd.func53 (by kernel_rfl) rfl)
    (cells_stops _ w1.heap.size b off c W0.heap.size (fun k => k = w.heap.size + 1) l W0 hv hzB (by omega) (by omega) (by omega) (by omega) (by omega) (Nat.le_refl _) cB hr hT0) KeepX.trans (KeepX.putObj (Nat.le_refl _)) (Below.refl _ _) (fun _ => rfl)
    (fun pre W => (W.cell? ⟨w.heap.size + 1, 0, none⟩ = some (.int .i64 (pre.length : Int)) ∧ W.frozen? ⟨w.heap.size + 1, 0, none⟩ = false) ∧ Ext w W)
    (fun _ _ _ => False)
    (OwnFrom.and (Own.from (fun s A B row hs hg hr => ⟨cell_kept hs.1 hg hr, (frozen_kept hs.1 hg hr).trans hs.2⟩) _) (ownFrom_below (Nat.le_refl _) (by omega)))
    (fun _ _ _ _ _ hs _ _ => hs) ⟨⟨c3, f3⟩, hE0⟩
    (fun p => { tmps := #[.agg #[.slice (some ⟨b, off, none⟩) l.length c], .pointer (some ⟨w.heap.size, 0, none⟩), .int .i64 0, .pointer (some ⟨w.heap.size + 1, 0, none⟩), .agg #[.slice (some ⟨b, off, none⟩) l.length c], .bool true, .agg #[.slice (some ⟨b, off, none⟩) l.length c], .func (.func 53) #[] #[.pointer (some ⟨w1.heap.size, 0, none⟩)], .agg #[.int .i64 (p.1 : Int), .int .i64 (p.2 : Int)], undef, undef, undef], defers := [] }) ?assign ?body ?done ?stop
  case assign =>
    intro ll p W K hK
    dsimp only [encCell]
    gi_wp2
    simpa using hK
  case body =>
    rintro ll pre p W ⟨⟨hA, hF⟩, hE⟩ hlen
    have hcl := Globe.cellsTo_len l 24
    gi_wp2
    refine ⟨by (repeat' (first | (with_reducible refine KeepsOthers.trans ?_ (KeepsOthers.setCell _ _ _)) | (with_reducible refine KeepsOthers.trans ?_ (KeepsOthers.drew _)) | (with_reducible exact KeepsOthers.refl _) | (refine Ext.others ?_; (repeat' (first | (with_reducible assumption) | (with_reducible exact Ext.refl _) | (with_reducible refine Ext.alloc ?_ _) | (with_reducible refine Ext.drew ?_) | (with_reducible refine Ext.drewN ?_ _) | (with_reducible refine Ext.setCell ?_ ?_ _) | (with_reducible refine Ext.trans ?_ (by assumption)) | go_size)); done))), KeepX.setCell (X := fun k => k = w.heap.size + 1) W (p := ⟨w.heap.size + 1, 0, none⟩) rfl _, ⟨?_, ?_⟩, by (repeat' (first | (with_reducible assumption) | (with_reducible exact Ext.refl _) | (with_reducible refine Ext.alloc ?_ _) | (with_reducible refine Ext.drew ?_) | (with_reducible refine Ext.drewN ?_ _) | (with_reducible refine Ext.setCell ?_ ?_ _) | (with_reducible refine Ext.trans ?_ (by assumption)) | go_size))⟩
    · simp [go_sem, hA]
    · simp [go_sem, hF]
  case done =>
    rintro D xs W hD rfl ⟨⟨hA, hF⟩, hE⟩ hK
    go_wp2
    refine ⟨by simp, .inl ⟨_, _, rfl, run_takeDeferred hK, ?_⟩⟩
    exact ⟨_, results_tmp rfl _ _ _, rfl, Ext.shut hE (by omega) hK⟩
  case stop =>
    rintro D c pre W _ _ h _
    exact h.elim

end Go.Proofs.YtdjjkhefdalokaaDoor

/- Contracts of package globe: Count. -/
namespace Go.Proofs.YtdjjkhefdalokaaDoor
open Go.RowKit

/-- How many cells. -/
theorem Count_c {w0 : World} {a : Option Addr} {l : List Int} {n : Nat} (c : Nat) {v : Bool} (w : World) (h : AA w0 a l n v) (hE : Ext w0 w) (hT : Tab w) :
    Calls Tryd.prog 11 #[.agg #[.slice a n c]] w fun e w' => e = .returned (.int .i64 (Globe.countL l : Nat)) ∧ Ext w w' := by
  replace h := h.ext hE
  obtain ⟨h1, rfl, h3, h4⟩ := h
  unfold Globe.countL Globe.cellsL
  rw [h4]
  cases v
  · exact Count_no a l c w h1 h3 h4
  · obtain ⟨b, o, rfl, hr⟩ := h1.rows (Globe.len_of_valid h4)
    have := Globe.len_of_valid h4
    exact Count_yes b o c l w (fun i hi => hr i (by omega)) h4 hT
theorem Count_v {w0 : World} {b o : Nat} (c : Nat) {l : List Int} (w : World) (h : VA w0 b o l) (hE : Ext w0 w) (hT : Tab w) :
    Calls Tryd.prog 11 #[.agg #[.slice (some ⟨b, o, none⟩) 24 c]] w fun e w' => e = .returned (.int .i64 ((Globe.cellsTo l 24).length : Nat)) ∧ Ext w w' := by
  have := Count_c c w h.aa hE hT
  unfold Globe.countL Globe.cellsL at this
  rwa [h.2] at this

theorem Count_r {w0 : World} {b o : Nat} (c : Nat) {l : List Int} {n : Nat} (w : World) (h : VA w0 b o l) (hE : Ext w0 w) (hT : Tab w) (hn : (Globe.cellsTo l 24).length = n) :
    Calls Tryd.prog 11 #[.agg #[.slice (some ⟨b, o, none⟩) 24 c]] w fun e w' => e = .returned (.int .i64 (n : Int)) ∧ Ext w w' := hn ▸ Count_v c w h hE hT

end Go.Proofs.YtdjjkhefdalokaaDoor

/- Equal cells, equal spells. -/
namespace Go.Proofs.YtdjjkhefdalokaaDoor
open Go.RowKit
theorem eqCell {ev : Operand → Value} {o : Oper} {x y : Operand} {a b c d : Int} {w : World} (hop : o.op = .binOp .eql 33 x y 33) (hx : ev x = .agg #[.int .i64 a, .int .i64 b]) (hy : ev y = .agg #[.int .i64 c, .int .i64 d]) : (execOp ev o).run Tryd.prog w = .ok (.value (.bool (decide (a = c ∧ b = d)))) w := by
  unfold execOp
  rw [hop]
  simp only []
  rw [hx, hy]
  by_cases h1 : a = c
  · by_cases h2 : b = d
    · subst h1; subst h2
      go_simp
    · go_simp
  · go_simp
end Go.Proofs.YtdjjkhefdalokaaDoor

/- What every law of this seat uses: the listed tables; integers in their bounds. -/
namespace Go.Proofs.YtdjjkhefdalokaaDoor
open Go.ChangeShapes Go.WideShapes Go.ChangeAt Go.RowKit

theorem own : ownKnob Tryd.prog.godebug = none := by kernel_rfl
theorem laidOut : laidOutB Tryd.prog = true := by kernel_rfl
def laidTabs : List (String × DataW Unit) := [("math/bits.deBruijn32tab", Rows.laid_math_bits_deBruijn32tab), ("math/bits.deBruijn64tab", Rows.laid_math_bits_deBruijn64tab)]
theorem gTab : Tryd.prog.globalNamed "math/bits.deBruijn64tab" = some 1 := by kernel_rfl
theorem tTab : (Tryd.prog.globals[1]?).map (·.type) = some 128 := by kernel_rfl

theorem door_met (os : Os) (args : Array Value) : laidMetH Tryd.prog laidTabs ((World.doorLaid Tryd.prog 19 os).forCall (fun _ _ => 0) ⟨#[], args, []⟩).memory :=
  laidMetH_of_parts3 (fuel := 8) (laidMet_of_run' 8 (by kernel_rfl) (by kernel_rfl)) (by kernel_rfl) (by kernel_rfl)

theorem tab_of_laid {W : World} (h : laidMetH Tryd.prog laidTabs W) : Tab W := by
  rw [MakeChecks.laidMetH_plain _ _ _ (by kernel_rfl)] at h
  have h2 : laidMet Tryd.prog [("math/bits.deBruijn64tab", Lib.tabData .u8 (Lib.deBruijn64tab.map Int.ofNat))] W := laidMet.tail h
  have ht := Lib.tabIs_of_head gTab tTab Tryd.underlying128 Tryd.underlying5 (by kernel_rfl) (by kernel_rfl) h2
  have hc : ∀ j, j < 64 → W.cell? ⟨1, j, none⟩ = some (.int .u8 (Lib.deBruijn64tab.getD j 0)) := fun j hj => by
    have := Lib.TabIs.cell ht gTab j (by rw [List.length_map]; exact hj)
    rw [this]
    simp [List.getD_eq_getElem?_getD, List.getElem?_map]
    rw [List.getElem?_eq_getElem (show j < Lib.deBruijn64tab.length from hj)]
    rfl
  exact ⟨World.block_lt_of_cell? W _ (hc 0 (by decide)), hc⟩

theorem isI_of_wf {n : Int} (h : (Lit.int .i64 n).wf = true) : IsI n := by
  simp [Lit.wf, IntKind.min, IntKind.max, IntKind.signed, IntKind.bits] at h
  exact ⟨by omega, by omega⟩

end Go.Proofs.YtdjjkhefdalokaaDoor

/- What every law of this seat uses: integers in their bounds; the openers. -/
namespace Go.Proofs.YtdjjkhefdalokaaDoor
open Go.ChangeShapes Go.WideShapes Go.ChangeAt Go.RowKit Go.Deep

def Pair (v : Value) : Prop := ∃ x y : Int, v = .agg #[.int .i64 x, .int .i64 y] ∧ IsI x ∧ IsI y
def Seven (v : Value) : Prop := ∃ x0 x1 x2 x3 x4 x5 x6 : Int, v = .agg #[.int .i64 x0, .int .i64 x1, .int .i64 x2, .int .i64 x3, .int .i64 x4, .int .i64 x5, .int .i64 x6] ∧ IsI x0 ∧ IsI x1 ∧ IsI x2 ∧ IsI x3 ∧ IsI x4 ∧ IsI x5 ∧ IsI x6

section
variable {H : Type} {enc : TypeId × Value → H} {W : World}
/-- An array of ints (each one cell): what it reads. -/
theorem ints_of_array {spare : Nat → Bool} {held : Bool} {t : TypeId} {k fuel : Nat} {cs : List Value} {x : DataW H × List MemPlace} (ht : Tryd.prog.underlying t = some (.array k 3)) (h : DataW.trod enc Tryd.prog W 0 spare held fuel t cs = some x) (hc : cs.length = k) :
    ∃ q : Nat → Int, ∀ j, j < k → cs[j]? = some (.int .i64 (q j)) ∧ IsI (q j) := by
  obtain ⟨xs, m, rfl, hx, hlen, hxl, hg⟩ := DataW.trod_array ht h
  have hone : Tryd.prog.cellsOf 3 = 1 := by kernel_rfl
  have each : ∀ j, j < k → ∃ n : Int, cs[j]? = some (.int .i64 n) ∧ IsI n := fun j hj => by
    have h1 := hg j hj
    rw [hone, Nat.mul_one] at h1
    have hx : xs[j]? = some (xs[j]'(by omega)) := List.getElem?_eq_getElem (by omega)
    rw [hx] at h1
    obtain ⟨n, hn, _, hw⟩ := DataW.trod_int Tryd.underlying3 h1
    have hcj : cs[j]? = some (.int .i64 n) := by
      have e : ((cs.drop j).take 1)[0]? = some (.int .i64 n) := by rw [hn]; rfl
      rw [List.getElem?_take_of_lt (by omega), List.getElem?_drop, Nat.add_zero] at e
      exact e
    exact ⟨n, hcj, isI_of_wf hw⟩
  obtain ⟨q, hq⟩ := choose_lt each
  exact ⟨q, hq⟩

set_option maxRecDepth 100000 in
theorem open_pair {b0 : Nat} {v : Value} {d : DataW H} {p : List MemPlace} (hval : Value.okWide Tryd.prog W .any b0 23 v) (h : DataW.Trod enc Tryd.prog W 0 (fun _ => true) true 23 v d p) : Pair v := by
  have hu := Tryd.underlying23
  simp only [Value.okWide, hu] at hval
  obtain ⟨cs, rfl, hsz, _⟩ := hval
  have h2 : Tryd.prog.cellsOf 23 = 2 := by kernel_rfl
  obtain ⟨fuel, hf⟩ := h
  have hl : cs.toList.length = 2 := by rw [Array.length_toList, hsz, h2]
  obtain ⟨q, hq⟩ := ints_of_array hu hf (by simpa [Value.cells] using hl)
  obtain ⟨l⟩ := cs
  match l, hl with
  | [x0, x1], _ =>
    have e0 := hq 0 (by omega)
    have e1 := hq 1 (by omega)
    simp [Value.cells] at e0 e1
    exact ⟨q 0, q 1, by rw [e0.1, e1.1], e0.2, e1.2⟩
set_option maxRecDepth 100000 in
theorem open_seven {b0 : Nat} {v : Value} {d : DataW H} {p : List MemPlace} (hval : Value.okWide Tryd.prog W .any b0 22 v) (h : DataW.Trod enc Tryd.prog W 0 (fun _ => true) true 22 v d p) : Seven v := by
  have hu := Tryd.underlying22
  simp only [Value.okWide, hu] at hval
  obtain ⟨cs, rfl, hsz, _⟩ := hval
  have h2 : Tryd.prog.cellsOf 22 = 7 := by kernel_rfl
  obtain ⟨fuel, hf⟩ := h
  have hl : cs.toList.length = 7 := by rw [Array.length_toList, hsz, h2]
  obtain ⟨q, hq⟩ := ints_of_array hu hf (by simpa [Value.cells] using hl)
  obtain ⟨l⟩ := cs
  match l, hl with
  | [x0, x1, x2, x3, x4, x5, x6], _ =>
    have e0 := hq 0 (by omega)
    have e1 := hq 1 (by omega)
    have e2 := hq 2 (by omega)
    have e3 := hq 3 (by omega)
    have e4 := hq 4 (by omega)
    have e5 := hq 5 (by omega)
    have e6 := hq 6 (by omega)
    simp [Value.cells] at e0 e1 e2 e3 e4 e5 e6
    exact ⟨q 0, q 1, q 2, q 3, q 4, q 5, q 6, by rw [e0.1, e1.1, e2.1, e3.1, e4.1, e5.1, e6.1], e0.2, e1.2, e2.2, e3.2, e4.2, e5.2, e6.2⟩
end
end Go.Proofs.YtdjjkhefdalokaaDoor
