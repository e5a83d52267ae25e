/- Part 6 of what the proof of SwathCells stands on. -/
import Derived.Test.YtdjjkhefdalokaaDoorV5SwathCells
/- Contracts of package swath: Best. -/
namespace Go.Proofs.YtdjjkhefdalokaaDoor
open Go.RowKit

theorem Shows_r {w1 : World} {o : Orb} {s : Int × Int} {lk : Int} {a : Option Addr} {l : List Int} {n : Nat} {v r : Bool} (c : Nat) (w : World) (hA : AA w1 a l n v) (e1 : Ext w1 w) (hr : Swath.showsB o s lk l = r) : Calls Tryd.prog 20 #[.agg #[.int .i64 o.p, .int .i64 o.f, .int .i64 o.lo, .int .i64 o.hi, .int .i64 o.nd, .int .i64 o.tn, .int .i64 o.sl], .agg #[.int .i64 s.1, .int .i64 s.2], .int .i64 lk, .agg #[.slice a n c]] w fun e w' => e = .returned (.bool r) ∧ Ext w w' := hr ▸ Shows_c c w hA e1
set_option maxRecDepth 1000000 in
set_option maxHeartbeats 4000000 in
theorem Best_y {w1 : World} {o : Orb} {sp : Int × Int} {mi : Int} {W : Nat} {a : Option Addr} {l : List Int} {n : Nat} (c : Nat) (w : World) (hA : AA w1 a l n true) (e1 : Ext w1 w) (g1 : Orb.ok o = true) (g2 : Swath.spB sp 300 = true) (g3 : Globe.inB mi 1 60 = true) (g4 : Globe.inB ((W : Nat) : Int) 0 4 = true) :
    Calls Tryd.prog 14 #[.agg #[.int .i64 o.p, .int .i64 o.f, .int .i64 o.lo, .int .i64 o.hi, .int .i64 o.nd, .int .i64 o.tn, .int .i64 o.sl], .agg #[.int .i64 sp.1, .int .i64 sp.2], .int .i64 mi, .int .i64 ((W : Nat) : Int), .agg #[.slice a n c]] w fun e w' => e = .returned (.tuple #[.agg #[.int .i64 (Swath.best o sp mi W l).1.1, .int .i64 (Swath.best o sp mi W l).1.2], .int .i64 (Swath.best o sp mi W l).2.1, .bool (Swath.best o sp mi W l).2.2, .int .i64 0]) ∧ Ext w w' := by
  have q2 := Swath.spB_t.1 g2
  have q3 := Globe.inB_t.1 g3
  have q4 := Globe.inB_t.1 g4
  obtain ⟨MM, hMM⟩ : ∃ m, m = 2 * W + 2 := ⟨_, rfl⟩
  refine calls_cw 89 [(4, .agg #[.slice a n c]), (3, .int .i64 (((W : Nat) : Int) : Int)), (2, .int .i64 (mi : Int)), (1, .agg #[.int .i64 (sp.1 : Int), .int .i64 (sp.2 : Int)]), (0, .agg #[.int .i64 (o.p : Int), .int .i64 (o.f : Int), .int .i64 (o.lo : Int), .int .i64 (o.hi : Int), .int .i64 (o.nd : Int), .int .i64 (o.tn : Int), .int .i64 (o.sl : Int)])] Tryd.func14 rfl Tryd.ntmps14 (by kernel_rfl) (by kernel_rfl) (fun L => ?_)
  have hE : Ext w w := Ext.refl w
  refine cw_seq ?_
  refine cw_plain ?_
  refine pl_step rfl (by kernel_rfl) (by kernel_rfl) (by kernel_rfl) (sn_new (us := #[.int .i64 (o.p : Int), .int .i64 (o.f : Int), .int .i64 (o.lo : Int), .int .i64 (o.hi : Int), .int .i64 (o.nd : Int), .int .i64 (o.tn : Int), .int .i64 (o.sl : Int)]) (t := 26) (by kernel_rfl) ?_)
  intro O1 X2 hO hOs hb hbx
  have hzO1 := hO; have hyO1 := hOs; clear hO hOs
  have bO1_0 : BoxAt X2 O1 0 (.int .i64 (o.p : Int)) := hbx 0 _ rfl
  have bO1_1 : BoxAt X2 O1 1 (.int .i64 (o.f : Int)) := hbx 1 _ rfl
  have bO1_2 : BoxAt X2 O1 2 (.int .i64 (o.lo : Int)) := hbx 2 _ rfl
  have bO1_3 : BoxAt X2 O1 3 (.int .i64 (o.hi : Int)) := hbx 3 _ rfl
  have bO1_4 : BoxAt X2 O1 4 (.int .i64 (o.nd : Int)) := hbx 4 _ rfl
  have bO1_5 : BoxAt X2 O1 5 (.int .i64 (o.tn : Int)) := hbx 5 _ rfl
  have bO1_6 : BoxAt X2 O1 6 (.int .i64 (o.sl : Int)) := hbx 6 _ rfl
  clear hbx
  replace hE := hE.trans hb
  have hs3 := hb.size
  clear hb
  have lt4 := bO1_0.lt
  refine pl_step rfl (by kernel_rfl) (by kernel_rfl) (by kernel_rfl) (sn_new (us := #[.int .i64 (sp.1 : Int), .int .i64 (sp.2 : Int)]) (t := 29) (by kernel_rfl) ?_)
  intro O5 X6 hO hOs hb hbx
  have hzO5 := hO; have hyO5 := hOs; clear hO hOs
  have bO5_0 : BoxAt X6 O5 0 (.int .i64 (sp.1 : Int)) := hbx 0 _ rfl
  have bO5_1 : BoxAt X6 O5 1 (.int .i64 (sp.2 : Int)) := hbx 1 _ rfl
  clear hbx
  replace hE := hE.trans hb
  replace bO1_0 := BoxAt.ext hb bO1_0
  replace bO1_1 := BoxAt.ext hb bO1_1
  replace bO1_2 := BoxAt.ext hb bO1_2
  replace bO1_3 := BoxAt.ext hb bO1_3
  replace bO1_4 := BoxAt.ext hb bO1_4
  replace bO1_5 := BoxAt.ext hb bO1_5
  replace bO1_6 := BoxAt.ext hb bO1_6
  have hs7 := hb.size
  clear hb
  have lt8 := bO5_0.lt
  refine pl_step rfl (by kernel_rfl) (by kernel_rfl) (by kernel_rfl) (sn_new (us := #[.slice a n c]) (t := 39) (by kernel_rfl) ?_)
  intro O9 X10 hO hOs hb hbx
  have hzO9 := hO; have hyO9 := hOs; clear hO hOs
  have bO9_0 : BoxAt X10 O9 0 (.slice a n c) := hbx 0 _ rfl
  clear hbx
  replace hE := hE.trans hb
  replace bO1_0 := BoxAt.ext hb bO1_0
  replace bO1_1 := BoxAt.ext hb bO1_1
  replace bO1_2 := BoxAt.ext hb bO1_2
  replace bO1_3 := BoxAt.ext hb bO1_3
  replace bO1_4 := BoxAt.ext hb bO1_4
  replace bO1_5 := BoxAt.ext hb bO1_5
  replace bO1_6 := BoxAt.ext hb bO1_6
  replace bO5_0 := BoxAt.ext hb bO5_0
  replace bO5_1 := BoxAt.ext hb bO5_1
  have hs11 := hb.size
  clear hb
  have lt12 := bO9_0.lt
  refine pl_step rfl (by kernel_rfl) (by kernel_rfl) (by kernel_rfl) (sn_new (us := #[.int .i64 0, .int .i64 0]) (t := 29) (by kernel_rfl) ?_)
  intro O13 X14 hO hOs hb hbx
  have hzO13 := hO; have hyO13 := hOs; clear hO hOs
  have bO13_0 : BoxAt X14 O13 0 (.int .i64 0) := hbx 0 _ rfl
  have bO13_1 : BoxAt X14 O13 1 (.int .i64 0) := hbx 1 _ rfl
  clear hbx
  replace hE := hE.trans hb
  replace bO1_0 := BoxAt.ext hb bO1_0
  replace bO1_1 := BoxAt.ext hb bO1_1
  replace bO1_2 := BoxAt.ext hb bO1_2
  replace bO1_3 := BoxAt.ext hb bO1_3
  replace bO1_4 := BoxAt.ext hb bO1_4
  replace bO1_5 := BoxAt.ext hb bO1_5
  replace bO1_6 := BoxAt.ext hb bO1_6
  replace bO5_0 := BoxAt.ext hb bO5_0
  replace bO5_1 := BoxAt.ext hb bO5_1
  replace bO9_0 := BoxAt.ext hb bO9_0
  have hs15 := hb.size
  clear hb
  have lt16 := bO13_0.lt
  refine pl_take (.int .i64 0) rfl (by kernel_rfl) (by kernel_rfl) (by kernel_rfl) (by kernel_rfl) ?_
  refine pl_take (.bool false) rfl (by kernel_rfl) (by kernel_rfl) (by kernel_rfl) (by kernel_rfl) ?_
  refine pl_take (.int .i64 0) rfl (by kernel_rfl) (by kernel_rfl) (by kernel_rfl) (by kernel_rfl) ?_
  refine pl_nil ?_
  refine qw_then ?_
  refine cw_scope ?_
  refine cw_seq ?_
  refine cw_seq ?_
  have hX17 : Ext X14 X14 := Ext.refl _
  refine cw_plain ?_
  refine pl_take (.agg #[.int .i64 (o.p : Int), .int .i64 (o.f : Int), .int .i64 (o.lo : Int), .int .i64 (o.hi : Int), .int .i64 (o.nd : Int), .int .i64 (o.tn : Int), .int .i64 (o.sl : Int)]) rfl (by kernel_rfl) (by kernel_rfl) (by kernel_rfl) (ex_load rfl (by kernel_rfl) (ld26 (bO1_0.1) (bO1_1.1) (bO1_2.1) (bO1_3.1) (bO1_4.1) (bO1_5.1) (bO1_6.1))) ?_
  refine pl_step rfl (by kernel_rfl) (by kernel_rfl) (by kernel_rfl) (sn_call (f := 35) (args := #[.agg #[.int .i64 (o.p : Int), .int .i64 (o.f : Int), .int .i64 (o.lo : Int), .int .i64 (o.hi : Int), .int .i64 (o.nd : Int), .int .i64 (o.tn : Int), .int .i64 (o.sl : Int)]]) (by kernel_rfl) ((oValid_r (r := true) _ (g1)).mono ?_))
  rintro e w18 ⟨rfl, hb⟩
  replace hE := hE.trans hb
  replace hX17 := hX17.trans hb
  have hs19 := hb.size
  clear hb
  refine ⟨_, rfl, ?_⟩
  refine pl_take (.bool false) rfl (by kernel_rfl) (by kernel_rfl) (by kernel_rfl) (by kernel_rfl) ?_
  refine pl_take (.bool false) rfl (by kernel_rfl) (by kernel_rfl) (by kernel_rfl) (by kernel_rfl) ?_
  refine pl_take (.agg #[.int .i64 (sp.1 : Int), .int .i64 (sp.2 : Int)]) rfl (by kernel_rfl) (by kernel_rfl) (by kernel_rfl) (ex_load rfl (by kernel_rfl) (ld29 ((BoxAt.ext hX17 bO5_0).1) ((BoxAt.ext hX17 bO5_1).1))) ?_
  refine pl_step rfl (by kernel_rfl) (by kernel_rfl) (by kernel_rfl) (sn_call (f := 36) (args := #[.agg #[.int .i64 (sp.1 : Int), .int .i64 (sp.2 : Int)], .int .i64 300]) (by kernel_rfl) ((isSpell_r (r := true) sp 300 _ (g2)).mono ?_))
  rintro e w20 ⟨rfl, hb⟩
  replace hE := hE.trans hb
  replace hX17 := hX17.trans hb
  have hs21 := hb.size
  clear hb
  refine ⟨_, rfl, ?_⟩
  refine pl_take (.bool false) rfl (by kernel_rfl) (by kernel_rfl) (by kernel_rfl) (by kernel_rfl) ?_
  refine pl_take (.bool false) rfl (by kernel_rfl) (by kernel_rfl) (by kernel_rfl) (by kernel_rfl) ?_
  refine pl_take (.bool false) rfl (by kernel_rfl) (by kernel_rfl) (by kernel_rfl) (by kernel_rfl) ?_
  refine pl_take (.int .i64 (mi : Int)) rfl (by kernel_rfl) (by kernel_rfl) (by kernel_rfl) (by kernel_rfl) ?_
  refine pl_step rfl (by kernel_rfl) (by kernel_rfl) (by kernel_rfl) (sn_call (f := 25) (args := #[.int .i64 (mi : Int), .int .i64 1, .int .i64 60]) (by kernel_rfl) ((swath_isIn_r (r := true) mi 1 60 _ (g3)).mono ?_))
  rintro e w22 ⟨rfl, hb⟩
  replace hE := hE.trans hb
  replace hX17 := hX17.trans hb
  have hs23 := hb.size
  clear hb
  refine ⟨_, rfl, ?_⟩
  refine pl_take (.bool false) rfl (by kernel_rfl) (by kernel_rfl) (by kernel_rfl) (by kernel_rfl) ?_
  refine pl_take (.bool false) rfl (by kernel_rfl) (by kernel_rfl) (by kernel_rfl) (by kernel_rfl) ?_
  refine pl_take (.bool false) rfl (by kernel_rfl) (by kernel_rfl) (by kernel_rfl) (by kernel_rfl) ?_
  refine pl_take (.int .i64 (((W : Nat) : Int) : Int)) rfl (by kernel_rfl) (by kernel_rfl) (by kernel_rfl) (by kernel_rfl) ?_
  refine pl_step rfl (by kernel_rfl) (by kernel_rfl) (by kernel_rfl) (sn_call (f := 25) (args := #[.int .i64 (((W : Nat) : Int) : Int), .int .i64 0, .int .i64 4]) (by kernel_rfl) ((swath_isIn_r (r := true) (((W : Nat) : Int)) 0 4 _ (g4)).mono ?_))
  rintro e w24 ⟨rfl, hb⟩
  replace hE := hE.trans hb
  replace hX17 := hX17.trans hb
  have hs25 := hb.size
  clear hb
  refine ⟨_, rfl, ?_⟩
  refine pl_take (.bool false) rfl (by kernel_rfl) (by kernel_rfl) (by kernel_rfl) (by kernel_rfl) ?_
  refine pl_take (.bool false) rfl (by kernel_rfl) (by kernel_rfl) (by kernel_rfl) (by kernel_rfl) ?_
  refine pl_take (.bool false) rfl (by kernel_rfl) (by kernel_rfl) (by kernel_rfl) (by kernel_rfl) ?_
  refine pl_take (.agg #[.slice a n c]) rfl (by kernel_rfl) (by kernel_rfl) (by kernel_rfl) (ex_load rfl (by kernel_rfl) (ld39 ((BoxAt.ext hX17 bO9_0).1))) ?_
  refine pl_step rfl (by kernel_rfl) (by kernel_rfl) (by kernel_rfl) (sn_call (f := 31) (args := #[.agg #[.slice a n c]]) (by kernel_rfl) ((Valid_e _ _ hA (e1.trans hE)).mono ?_))
  rintro e w26 ⟨rfl, hb⟩
  replace hE := hE.trans hb
  replace hX17 := hX17.trans hb
  have hs27 := hb.size
  clear hb
  refine ⟨_, rfl, ?_⟩
  refine pl_take (.bool false) rfl (by kernel_rfl) (by kernel_rfl) (by kernel_rfl) (by kernel_rfl) ?_
  refine pl_take (.bool false) rfl (by kernel_rfl) (by kernel_rfl) (by kernel_rfl) (by kernel_rfl) ?_
  refine pl_nil ?_
  refine qw_then ?_
  refine cw_clean [2, 3, 5, 6, 9, 10, 41] (ws' := [(2, .int .i64 (mi : Int)), (3, .int .i64 (((W : Nat) : Int) : Int)), (5, .pointer (some ⟨O1, 0, none⟩)), (6, .pointer (some ⟨O5, 0, none⟩)), (9, .pointer (some ⟨O9, 0, none⟩)), (10, .pointer (some ⟨O13, 0, none⟩)), (41, .bool false)]) (by kernel_rfl) (fun L => ?_)
  refine cw_f (by kernel_rfl) ?_
  refine cw_skip ?_
  refine qw_then ?_
  refine cw_seq ?_
  refine cw_label ?_
  refine qw_then ?_
  refine cw_seq ?_
  refine cw_seq ?_
  refine cw_plain ?_
  refine pl_take (.pointer (some ⟨O5, 0, none⟩)) rfl (by kernel_rfl) (by kernel_rfl) (by kernel_rfl) (by kernel_rfl) ?_
  refine pl_take (.int .i64 (sp.1 : Int)) rfl (by kernel_rfl) (by kernel_rfl) (by kernel_rfl) (ex_load rfl (by kernel_rfl) (ld3 ((BoxAt.ext hX17 bO5_0).1))) ?_
  refine pl_take (.int .i64 (sp.1 + ((0 : Nat) : Int) : Int)) rfl (by kernel_rfl) (by kernel_rfl) (by kernel_rfl) (ev_int (show _ = Result.ok (Next.value (Value.int .i64 sp.1)) _ from by kernel_rfl) (by omega)) ?_
  refine pl_nil ?_
  refine qw_then ?_
  refine cw_block ?_
  have hX28 : Ext w26 w26 := Ext.refl _
  refine cw_loop [2, 3, 5, 6, 9, 10, 14] (fun ws' wr m => ∃ j : Nat, ws' = [(2, .int .i64 (mi : Int)), (3, .int .i64 (((W : Nat) : Int) : Int)), (5, .pointer (some ⟨O1, 0, none⟩)), (6, .pointer (some ⟨O5, 0, none⟩)), (9, .pointer (some ⟨O9, 0, none⟩)), (10, .pointer (some ⟨O13, 0, none⟩)), (14, .int .i64 (sp.1 + ((j : Nat) : Int) : Int))] ∧ m = Swath.starts sp mi - j ∧ w26.heap.size ≤ wr.heap.size ∧ Ext w wr ∧ Ext w26 wr ∧ Swath.NoHit (Swath.bestP o sp mi W l) (j * (2 * W + 2)) ∧ j ≤ Swath.starts sp mi) (ws0 := [(2, .int .i64 (mi : Int)), (3, .int .i64 (((W : Nat) : Int) : Int)), (5, .pointer (some ⟨O1, 0, none⟩)), (6, .pointer (some ⟨O5, 0, none⟩)), (9, .pointer (some ⟨O9, 0, none⟩)), (10, .pointer (some ⟨O13, 0, none⟩)), (14, .int .i64 (sp.1 + ((0 : Nat) : Int) : Int))]) (by kernel_rfl) _ ⟨0, rfl, rfl, Nat.le_refl _, hE, hX28, (Swath.NoHit.le (Swath.noHit_0 _) (Nat.zero_mul _)), Nat.zero_le _⟩ ?_
  clear hE hX28
  rintro m31 L ws w30 ⟨j, rfl, rfl, hs29, hE, hX28, hitJ, hj⟩
  have hst : Swath.starts sp mi = (sp.2 - sp.1 - mi + 1).toNat := rfl
  have hkk := hitJ
  by_cases hlt : j < Swath.starts sp mi
  ·
    refine cw_seq ?_
    refine cw_seq ?_
    refine cw_plain ?_
    refine pl_take (.int .i64 (sp.1 + ((j : Nat) : Int) : Int)) rfl (by kernel_rfl) (by kernel_rfl) (by kernel_rfl) (by kernel_rfl) ?_
    refine pl_take (.int .i64 (mi : Int)) rfl (by kernel_rfl) (by kernel_rfl) (by kernel_rfl) (by kernel_rfl) ?_
    refine pl_take (.int .i64 ((sp.1 + ((j : Nat) : Int)) + mi : Int)) rfl (by kernel_rfl) (by kernel_rfl) (by kernel_rfl) (ev_wrap (by kernel_rfl) (by omega) (by omega)) ?_
    refine pl_take (.pointer (some ⟨O5, 1, none⟩)) rfl (by kernel_rfl) (by kernel_rfl) (by kernel_rfl) (by kernel_rfl) ?_
    refine pl_take (.int .i64 (sp.2 : Int)) rfl (by kernel_rfl) (by kernel_rfl) (by kernel_rfl) (ex_load rfl (by kernel_rfl) (ld3 ((BoxAt.ext (hX17.trans hX28) bO5_1).1))) ?_
    refine pl_take (.bool true) rfl (by kernel_rfl) (by kernel_rfl) (by kernel_rfl) (ev_dec (show _ = Result.ok (Next.value (Value.bool (decide (((sp.1 + ((j : Nat) : Int)) + mi : Int) ≤ (sp.2 : Int))))) _ from by kernel_rfl) (by omega)) ?_
    refine pl_nil ?_
    refine qw_then ?_
    refine cw_t (by kernel_rfl) ?_
    refine cw_skip ?_
    refine qw_then ?_
    refine cw_seq ?_
    refine cw_block ?_
    refine cw_seq ?_
    refine cw_plain ?_
    refine pl_take (.int .i64 (sp.1 + ((j : Nat) : Int) : Int)) rfl (by kernel_rfl) (by kernel_rfl) (by kernel_rfl) (by kernel_rfl) ?_
    refine pl_take (.int .i64 (sp.1 + ((j : Nat) : Int) : Int)) rfl (by kernel_rfl) (by kernel_rfl) (by kernel_rfl) (by kernel_rfl) ?_
    refine pl_take (.int .i64 (mi : Int)) rfl (by kernel_rfl) (by kernel_rfl) (by kernel_rfl) (by kernel_rfl) ?_
    refine pl_take (.int .i64 ((sp.1 + ((j : Nat) : Int)) + mi : Int)) rfl (by kernel_rfl) (by kernel_rfl) (by kernel_rfl) (ev_wrap (by kernel_rfl) (by omega) (by omega)) ?_
    refine pl_take (.agg #[.int .i64 (sp.1 + ((j : Nat) : Int) : Int), .int .i64 ((sp.1 + ((j : Nat) : Int)) + mi : Int)]) rfl (by kernel_rfl) (by kernel_rfl) (by kernel_rfl) (by kernel_rfl) ?_
    refine pl_step rfl (by kernel_rfl) (by kernel_rfl) (by kernel_rfl) (sn_new (us := #[.int .i64 0, .int .i64 0]) (t := 29) (by kernel_rfl) ?_)
    intro O32 X33 hO hOs hb hbx
    have hzO32 := hO; have hyO32 := hOs; clear hO hOs
    have bO32_0 : BoxAt X33 O32 0 (.int .i64 0) := hbx 0 _ rfl
    have bO32_1 : BoxAt X33 O32 1 (.int .i64 0) := hbx 1 _ rfl
    clear hbx
    replace hE := hE.trans hb
    replace hX28 := hX28.trans hb
    have hs34 := hb.size
    clear hb
    have lt35 := bO32_0.lt
    refine pl_put rfl (by kernel_rfl) (by kernel_rfl) (sn_set2 (O := O32) (j := 0) (v := .int .i64 (sp.1 + ((j : Nat) : Int) : Int)) (v' := .int .i64 ((sp.1 + ((j : Nat) : Int)) + mi : Int)) (ex_store (p := .pointer (some ⟨O32, 0, none⟩)) (v := .agg #[.int .i64 (sp.1 + ((j : Nat) : Int) : Int), .int .i64 ((sp.1 + ((j : Nat) : Int)) + mi : Int)]) rfl (by kernel_rfl) (by kernel_rfl) (st29 bO32_0.1 bO32_0.2 bO32_1.1 bO32_1.2)) bO32_0 bO32_1 ?_)
    intro X36 ho hv0 hv1 hk
    replace hE := ho.ext hE (Nat.le_trans (Nat.le_trans hs3 (Nat.le_trans hs7 (Nat.le_trans hs11 (Nat.le_trans hs15 (Nat.le_trans hs19 (Nat.le_trans hs21 (Nat.le_trans hs23 (Nat.le_trans hs25 (Nat.le_trans hs27 hs29))))))))) (Nat.le_of_eq hzO32))
    replace hX28 := ho.ext hX28 (Nat.le_trans hs29 (Nat.le_of_eq hzO32))
    have hs37 : X33.heap.size ≤ X36.heap.size := Nat.le_of_eq ho.size.symm
    clear ho hk bO32_0 bO32_1
    have bO32_0 := hv0; clear hv0
    have bO32_1 := hv1; clear hv1
    refine pl_nil ?_
    refine qw_then ?_
    refine cw_clean [2, 3, 5, 6, 9, 10, 14, 15] (ws' := [(2, .int .i64 (mi : Int)), (3, .int .i64 (((W : Nat) : Int) : Int)), (5, .pointer (some ⟨O1, 0, none⟩)), (6, .pointer (some ⟨O5, 0, none⟩)), (9, .pointer (some ⟨O9, 0, none⟩)), (10, .pointer (some ⟨O13, 0, none⟩)), (14, .int .i64 (sp.1 + ((j : Nat) : Int) : Int)), (15, .pointer (some ⟨O32, 0, none⟩))]) (by kernel_rfl) (fun L => ?_)
    refine cw_seq ?_
    refine cw_plain ?_
    refine pl_take (.int .i64 (((W : Nat) : Int) : Int)) rfl (by kernel_rfl) (by kernel_rfl) (by kernel_rfl) (by kernel_rfl) ?_
    refine pl_take (.int .i64 (((W + 1 : Nat) : Int) : Int)) rfl (by kernel_rfl) (by kernel_rfl) (by kernel_rfl) (ev_wrap (by kernel_rfl) (by omega) (by omega)) ?_
    refine pl_take (.int .i64 0) rfl (by kernel_rfl) (by kernel_rfl) (by kernel_rfl) (by kernel_rfl) ?_
    refine pl_nil ?_
    refine qw_then ?_
    refine cw_block ?_
    have hX38 : Ext X36 X36 := Ext.refl _
    refine cw_loop [2, 3, 5, 6, 9, 10, 14, 15, 59, 60] (fun ws' wr m => ∃ k : Nat, ws' = [(2, .int .i64 (mi : Int)), (3, .int .i64 (((W : Nat) : Int) : Int)), (5, .pointer (some ⟨O1, 0, none⟩)), (6, .pointer (some ⟨O5, 0, none⟩)), (9, .pointer (some ⟨O9, 0, none⟩)), (10, .pointer (some ⟨O13, 0, none⟩)), (14, .int .i64 (sp.1 + ((j : Nat) : Int) : Int)), (15, .pointer (some ⟨O32, 0, none⟩)), (59, .int .i64 (((W + 1 : Nat) : Int) : Int)), (60, .int .i64 (((k : Nat) : Int) : Int))] ∧ m = W + 1 - k ∧ X36.heap.size ≤ wr.heap.size ∧ Ext w wr ∧ Ext X36 wr ∧ Swath.NoHit (Swath.bestP o sp mi W l) (j * (2 * W + 2) + 2 * k) ∧ k ≤ W + 1) (ws0 := [(2, .int .i64 (mi : Int)), (3, .int .i64 (((W : Nat) : Int) : Int)), (5, .pointer (some ⟨O1, 0, none⟩)), (6, .pointer (some ⟨O5, 0, none⟩)), (9, .pointer (some ⟨O9, 0, none⟩)), (10, .pointer (some ⟨O13, 0, none⟩)), (14, .int .i64 (sp.1 + ((j : Nat) : Int) : Int)), (15, .pointer (some ⟨O32, 0, none⟩)), (59, .int .i64 (((W + 1 : Nat) : Int) : Int)), (60, .int .i64 0)]) (by kernel_rfl) _ ⟨0, rfl, rfl, Nat.le_refl _, hE, hX38, (Swath.NoHit.le hitJ (by omega)), by omega⟩ ?_
    clear hE hX38
    rintro m41 L ws w40 ⟨k, rfl, rfl, hs39, hE, hX38, hitK, hk⟩
    by_cases hlt : k < W + 1
    ·
      refine cw_seq ?_
      refine cw_plain ?_
      refine pl_take (.bool true) rfl (by kernel_rfl) (by kernel_rfl) (by kernel_rfl) (ev_dec (show _ = Result.ok (Next.value (Value.bool (decide ((((k : Nat) : Int) : Int) < (((W + 1 : Nat) : Int) : Int))))) _ from by kernel_rfl) (by omega)) ?_
      refine pl_nil ?_
      refine qw_then ?_
      refine cw_seq ?_
      refine cw_t (by kernel_rfl) ?_
      refine cw_skip ?_
      refine qw_then ?_
      refine cw_seq ?_
      refine cw_block ?_
      refine cw_seq ?_
      refine cw_plain ?_
      refine pl_take (.int .i64 (((k : Nat) : Int) : Int)) rfl (by kernel_rfl) (by kernel_rfl) (by kernel_rfl) (by kernel_rfl) ?_
      refine pl_take (.int .i64 (((k : Nat) : Int) : Int)) rfl (by kernel_rfl) (by kernel_rfl) (by kernel_rfl) (by kernel_rfl) ?_
      refine pl_nil ?_
      refine qw_then ?_
      refine cw_seq ?_
      refine cw_plain ?_
      refine pl_take (.int .i64 (((k : Nat) : Int) : Int)) rfl (by kernel_rfl) (by kernel_rfl) (by kernel_rfl) (by kernel_rfl) ?_
      refine pl_take (.int .i64 (((k : Nat) : Int) : Int)) rfl (by kernel_rfl) (by kernel_rfl) (by kernel_rfl) (by kernel_rfl) ?_
      refine pl_take (.int .i64 (-(((k : Nat) : Int)) : Int)) rfl (by kernel_rfl) (by kernel_rfl) (by kernel_rfl) (ev_int (ev_wrap (a := 0 - (((k : Nat) : Int))) (by kernel_rfl) (by omega) (by omega)) (by omega)) ?_
      refine pl_take (.agg #[.int .i64 (((k : Nat) : Int) : Int), .int .i64 (-(((k : Nat) : Int)) : Int)]) rfl (by kernel_rfl) (by kernel_rfl) (by kernel_rfl) (by kernel_rfl) ?_
      refine pl_take (.int .i64 0) rfl (by kernel_rfl) (by kernel_rfl) (by kernel_rfl) (by kernel_rfl) ?_
      refine pl_nil ?_
      refine qw_then ?_
      refine cw_clean [2, 3, 5, 6, 9, 10, 14, 15, 16, 59, 60, 66, 67] (ws' := [(2, .int .i64 (mi : Int)), (3, .int .i64 (((W : Nat) : Int) : Int)), (5, .pointer (some ⟨O1, 0, none⟩)), (6, .pointer (some ⟨O5, 0, none⟩)), (9, .pointer (some ⟨O9, 0, none⟩)), (10, .pointer (some ⟨O13, 0, none⟩)), (14, .int .i64 (sp.1 + ((j : Nat) : Int) : Int)), (15, .pointer (some ⟨O32, 0, none⟩)), (16, .int .i64 (((k : Nat) : Int) : Int)), (59, .int .i64 (((W + 1 : Nat) : Int) : Int)), (60, .int .i64 (((k : Nat) : Int) : Int)), (66, .agg #[.int .i64 (((k : Nat) : Int) : Int), .int .i64 (-(((k : Nat) : Int)) : Int)]), (67, .int .i64 0)]) (by kernel_rfl) (fun L => ?_)
      refine cw_block ?_
      have hX42 : Ext w40 w40 := Ext.refl _
      refine cw_loop [2, 3, 5, 6, 9, 10, 14, 15, 16, 59, 60, 66, 67] (fun ws' wr m => ∃ q : Nat, ws' = [(2, .int .i64 (mi : Int)), (3, .int .i64 (((W : Nat) : Int) : Int)), (5, .pointer (some ⟨O1, 0, none⟩)), (6, .pointer (some ⟨O5, 0, none⟩)), (9, .pointer (some ⟨O9, 0, none⟩)), (10, .pointer (some ⟨O13, 0, none⟩)), (14, .int .i64 (sp.1 + ((j : Nat) : Int) : Int)), (15, .pointer (some ⟨O32, 0, none⟩)), (16, .int .i64 (((k : Nat) : Int) : Int)), (59, .int .i64 (((W + 1 : Nat) : Int) : Int)), (60, .int .i64 (((k : Nat) : Int) : Int)), (66, .agg #[.int .i64 (((k : Nat) : Int) : Int), .int .i64 (-(((k : Nat) : Int)) : Int)]), (67, .int .i64 (((q : Nat) : Int) : Int))] ∧ m = 2 - q ∧ w40.heap.size ≤ wr.heap.size ∧ Ext w wr ∧ Ext w40 wr ∧ Swath.NoHit (Swath.bestP o sp mi W l) (j * (2 * W + 2) + 2 * k + q) ∧ q ≤ 2) (ws0 := [(2, .int .i64 (mi : Int)), (3, .int .i64 (((W : Nat) : Int) : Int)), (5, .pointer (some ⟨O1, 0, none⟩)), (6, .pointer (some ⟨O5, 0, none⟩)), (9, .pointer (some ⟨O9, 0, none⟩)), (10, .pointer (some ⟨O13, 0, none⟩)), (14, .int .i64 (sp.1 + ((j : Nat) : Int) : Int)), (15, .pointer (some ⟨O32, 0, none⟩)), (16, .int .i64 (((k : Nat) : Int) : Int)), (59, .int .i64 (((W + 1 : Nat) : Int) : Int)), (60, .int .i64 (((k : Nat) : Int) : Int)), (66, .agg #[.int .i64 (((k : Nat) : Int) : Int), .int .i64 (-(((k : Nat) : Int)) : Int)]), (67, .int .i64 0)]) (by kernel_rfl) _ ⟨0, rfl, rfl, Nat.le_refl _, hE, hX42, (Swath.NoHit.le hitK (by omega)), by omega⟩ ?_
      clear hE hX42
      rintro m45 L ws w44 ⟨q, rfl, rfl, hs43, hE, hX42, hitQ, hq⟩
      rcases (show q = 0 ∨ q = 1 ∨ q = 2 by omega) with rfl | rfl | rfl
      ·
        refine cw_seq ?_
        refine cw_plain ?_
        refine pl_take (.bool true) rfl (by kernel_rfl) (by kernel_rfl) (by kernel_rfl) (by kernel_rfl) ?_
        refine pl_nil ?_
        refine qw_then ?_
        refine cw_seq ?_
        refine cw_t (by kernel_rfl) ?_
        refine cw_skip ?_
        refine qw_then ?_
        refine cw_seq ?_
        refine cw_block ?_
        refine cw_seq ?_
        refine cw_plain ?_
        refine pl_take (.int .i64 (((k : Nat) : Int) : Int)) rfl (by kernel_rfl) (by kernel_rfl) (by kernel_rfl) (by kernel_rfl) ?_
        refine pl_take (.int .i64 (((k : Nat) : Int) : Int)) rfl (by kernel_rfl) (by kernel_rfl) (by kernel_rfl) (by kernel_rfl) ?_
        refine pl_nil ?_
        refine qw_then ?_
        refine cw_clean [2, 3, 5, 6, 9, 10, 14, 15, 16, 18, 59, 60, 66, 67] (ws' := [(2, .int .i64 (mi : Int)), (3, .int .i64 (((W : Nat) : Int) : Int)), (5, .pointer (some ⟨O1, 0, none⟩)), (6, .pointer (some ⟨O5, 0, none⟩)), (9, .pointer (some ⟨O9, 0, none⟩)), (10, .pointer (some ⟨O13, 0, none⟩)), (14, .int .i64 (sp.1 + ((j : Nat) : Int) : Int)), (15, .pointer (some ⟨O32, 0, none⟩)), (16, .int .i64 (((k : Nat) : Int) : Int)), (18, .int .i64 (((k : Nat) : Int) : Int)), (59, .int .i64 (((W + 1 : Nat) : Int) : Int)), (60, .int .i64 (((k : Nat) : Int) : Int)), (66, .agg #[.int .i64 (((k : Nat) : Int) : Int), .int .i64 (-(((k : Nat) : Int)) : Int)]), (67, .int .i64 0)]) (by kernel_rfl) (fun L => ?_)
        refine cw_seq ?_
        refine cw_seq ?_
        have hlk : Swath.lkQ (2 * k + 0) = ((k : Nat) : Int) := Swath.lk_even k
        have hfs := Swath.best_at (o := o) (sp := sp) (mi := mi) (wd := W) (l := l) (j := j) (x := 2 * k + 0) (by omega)
        rw [hlk] at hfs
        rcases Bool.eq_false_or_eq_true (Swath.showsB o (sp.1 + ((j : Nat) : Int), sp.1 + ((j : Nat) : Int) + mi) (((k : Nat) : Int)) l) with hsh | hsh
        ·
          have hbest := Swath.best_hit (o := o) (sp := sp) (mi := mi) (wd := W) (l := l) (j := j) (x := 2 * k + 0) (by omega) (by omega) (Swath.NoHit.le hitQ (by omega)) (by rw [hlk]; exact hsh)
          rw [hlk] at hbest
          refine cw_plain ?_
          have hY46 := hX28.trans hX38
          have hY47 := hX17.trans hY46
          refine pl_take (.agg #[.int .i64 (o.p : Int), .int .i64 (o.f : Int), .int .i64 (o.lo : Int), .int .i64 (o.hi : Int), .int .i64 (o.nd : Int), .int .i64 (o.tn : Int), .int .i64 (o.sl : Int)]) rfl (by kernel_rfl) (by kernel_rfl) (by kernel_rfl) (ex_load rfl (by kernel_rfl) (ld26 ((BoxAt.ext (hY47.trans hX42) bO1_0).1) ((BoxAt.ext (hY47.trans hX42) bO1_1).1) ((BoxAt.ext (hY47.trans hX42) bO1_2).1) ((BoxAt.ext (hY47.trans hX42) bO1_3).1) ((BoxAt.ext (hY47.trans hX42) bO1_4).1) ((BoxAt.ext (hY47.trans hX42) bO1_5).1) ((BoxAt.ext (hY47.trans hX42) bO1_6).1))) ?_
          refine pl_take (.agg #[.int .i64 (sp.1 + ((j : Nat) : Int) : Int), .int .i64 ((sp.1 + ((j : Nat) : Int)) + mi : Int)]) rfl (by kernel_rfl) (by kernel_rfl) (by kernel_rfl) (ex_load rfl (by kernel_rfl) (ld29 ((BoxAt.ext (hX38.trans hX42) bO32_0).1) ((BoxAt.ext (hX38.trans hX42) bO32_1).1))) ?_
          refine pl_take (.int .i64 (((k : Nat) : Int) : Int)) rfl (by kernel_rfl) (by kernel_rfl) (by kernel_rfl) (by kernel_rfl) ?_
          refine pl_take (.agg #[.slice a n c]) rfl (by kernel_rfl) (by kernel_rfl) (by kernel_rfl) (ex_load rfl (by kernel_rfl) (ld39 ((BoxAt.ext (hY47.trans hX42) bO9_0).1))) ?_
          refine pl_step rfl (by kernel_rfl) (by kernel_rfl) (by kernel_rfl) (sn_call (f := 20) (args := #[.agg #[.int .i64 (o.p : Int), .int .i64 (o.f : Int), .int .i64 (o.lo : Int), .int .i64 (o.hi : Int), .int .i64 (o.nd : Int), .int .i64 (o.tn : Int), .int .i64 (o.sl : Int)], .agg #[.int .i64 (sp.1 + ((j : Nat) : Int) : Int), .int .i64 ((sp.1 + ((j : Nat) : Int)) + mi : Int)], .int .i64 (((k : Nat) : Int) : Int), .agg #[.slice a n c]]) (by kernel_rfl) ((Shows_r (s := (sp.1 + ((j : Nat) : Int), sp.1 + ((j : Nat) : Int) + mi)) (r := true) _ _ hA (e1.trans hE) hsh).mono ?_))
          rintro e w48 ⟨rfl, hb⟩
          replace hE := hE.trans hb
          replace hX42 := hX42.trans hb
          have hs49 := hb.size
          clear hb
          refine ⟨_, rfl, ?_⟩
          refine pl_nil ?_
          refine qw_then ?_
          refine cw_clean [2, 3, 5, 6, 9, 10, 14, 15, 16, 18, 59, 60, 66, 67, 74] (ws' := [(2, .int .i64 (mi : Int)), (3, .int .i64 (((W : Nat) : Int) : Int)), (5, .pointer (some ⟨O1, 0, none⟩)), (6, .pointer (some ⟨O5, 0, none⟩)), (9, .pointer (some ⟨O9, 0, none⟩)), (10, .pointer (some ⟨O13, 0, none⟩)), (14, .int .i64 (sp.1 + ((j : Nat) : Int) : Int)), (15, .pointer (some ⟨O32, 0, none⟩)), (16, .int .i64 (((k : Nat) : Int) : Int)), (18, .int .i64 (((k : Nat) : Int) : Int)), (59, .int .i64 (((W + 1 : Nat) : Int) : Int)), (60, .int .i64 (((k : Nat) : Int) : Int)), (66, .agg #[.int .i64 (((k : Nat) : Int) : Int), .int .i64 (-(((k : Nat) : Int)) : Int)]), (67, .int .i64 0), (74, .bool true)]) (by kernel_rfl) (fun L => ?_)
          refine cw_t (by kernel_rfl) ?_
          refine cw_seq ?_
          refine cw_plain ?_
          refine pl_take (.agg #[.int .i64 (sp.1 + ((j : Nat) : Int) : Int), .int .i64 ((sp.1 + ((j : Nat) : Int)) + mi : Int)]) rfl (by kernel_rfl) (by kernel_rfl) (by kernel_rfl) (ex_load rfl (by kernel_rfl) (ld29 ((BoxAt.ext (hX38.trans hX42) bO32_0).1) ((BoxAt.ext (hX38.trans hX42) bO32_1).1))) ?_
          refine pl_take (.int .i64 (((k : Nat) : Int) : Int)) rfl (by kernel_rfl) (by kernel_rfl) (by kernel_rfl) (by kernel_rfl) ?_
          have bO1_t51 := (BoxAt.ext (hY47.trans hX42) bO1_0)
          have bO1_t52 := (BoxAt.ext (hY47.trans hX42) bO1_1)
          have bO1_t53 := (BoxAt.ext (hY47.trans hX42) bO1_2)
          have bO1_t54 := (BoxAt.ext (hY47.trans hX42) bO1_3)
          have bO1_t55 := (BoxAt.ext (hY47.trans hX42) bO1_4)
          have bO1_t56 := (BoxAt.ext (hY47.trans hX42) bO1_5)
          have bO1_t57 := (BoxAt.ext (hY47.trans hX42) bO1_6)
          have bO5_t58 := (BoxAt.ext (hY47.trans hX42) bO5_0)
          have bO5_t59 := (BoxAt.ext (hY47.trans hX42) bO5_1)
          have bO9_t60 := (BoxAt.ext (hY47.trans hX42) bO9_0)
          have bO13_t61 := (BoxAt.ext (hY47.trans hX42) bO13_0)
          have bO13_t62 := (BoxAt.ext (hY47.trans hX42) bO13_1)
          have bO32_t63 := (BoxAt.ext (hX38.trans hX42) bO32_0)
          have bO32_t64 := (BoxAt.ext (hX38.trans hX42) bO32_1)
          refine pl_put rfl (by kernel_rfl) (by kernel_rfl) (sn_set2 (O := O13) (j := 0) (v := .int .i64 (sp.1 + ((j : Nat) : Int) : Int)) (v' := .int .i64 ((sp.1 + ((j : Nat) : Int)) + mi : Int)) (ex_store (p := .pointer (some ⟨O13, 0, none⟩)) (v := .agg #[.int .i64 (sp.1 + ((j : Nat) : Int) : Int), .int .i64 ((sp.1 + ((j : Nat) : Int)) + mi : Int)]) rfl (by kernel_rfl) (by kernel_rfl) (st29 bO13_t61.1 bO13_t61.2 bO13_t62.1 bO13_t62.2)) bO13_t61 bO13_t62 ?_)
          intro X50 ho hv0 hv1 hk
          replace hE := ho.ext hE (Nat.le_trans (Nat.le_trans hs3 (Nat.le_trans hs7 hs11)) (Nat.le_of_eq hzO13))
          replace bO1_t51 := ho.box (Nat.ne_of_gt (Nat.lt_of_lt_of_le lt4 (Nat.le_trans (Nat.le_trans hs7 hs11) (Nat.le_of_eq hzO13)))) bO1_t51
          replace bO1_t52 := ho.box (Nat.ne_of_gt (Nat.lt_of_lt_of_le lt4 (Nat.le_trans (Nat.le_trans hs7 hs11) (Nat.le_of_eq hzO13)))) bO1_t52
          replace bO1_t53 := ho.box (Nat.ne_of_gt (Nat.lt_of_lt_of_le lt4 (Nat.le_trans (Nat.le_trans hs7 hs11) (Nat.le_of_eq hzO13)))) bO1_t53
          replace bO1_t54 := ho.box (Nat.ne_of_gt (Nat.lt_of_lt_of_le lt4 (Nat.le_trans (Nat.le_trans hs7 hs11) (Nat.le_of_eq hzO13)))) bO1_t54
          replace bO1_t55 := ho.box (Nat.ne_of_gt (Nat.lt_of_lt_of_le lt4 (Nat.le_trans (Nat.le_trans hs7 hs11) (Nat.le_of_eq hzO13)))) bO1_t55
          replace bO1_t56 := ho.box (Nat.ne_of_gt (Nat.lt_of_lt_of_le lt4 (Nat.le_trans (Nat.le_trans hs7 hs11) (Nat.le_of_eq hzO13)))) bO1_t56
          replace bO1_t57 := ho.box (Nat.ne_of_gt (Nat.lt_of_lt_of_le lt4 (Nat.le_trans (Nat.le_trans hs7 hs11) (Nat.le_of_eq hzO13)))) bO1_t57
          replace bO5_t58 := ho.box (Nat.ne_of_gt (Nat.lt_of_lt_of_le lt8 (Nat.le_trans hs11 (Nat.le_of_eq hzO13)))) bO5_t58
          replace bO5_t59 := ho.box (Nat.ne_of_gt (Nat.lt_of_lt_of_le lt8 (Nat.le_trans hs11 (Nat.le_of_eq hzO13)))) bO5_t59
          replace bO9_t60 := ho.box (Nat.ne_of_gt (Nat.lt_of_lt_of_le lt12 (Nat.le_of_eq hzO13))) bO9_t60
          replace bO32_t63 := ho.box (Nat.ne_of_lt (Nat.lt_of_lt_of_le lt16 (Nat.le_trans (Nat.le_trans hs19 (Nat.le_trans hs21 (Nat.le_trans hs23 (Nat.le_trans hs25 (Nat.le_trans hs27 hs29))))) (Nat.le_of_eq hzO32)))) bO32_t63
          replace bO32_t64 := ho.box (Nat.ne_of_lt (Nat.lt_of_lt_of_le lt16 (Nat.le_trans (Nat.le_trans hs19 (Nat.le_trans hs21 (Nat.le_trans hs23 (Nat.le_trans hs25 (Nat.le_trans hs27 hs29))))) (Nat.le_of_eq hzO32)))) bO32_t64
          have hs65 : w48.heap.size ≤ X50.heap.size := Nat.le_of_eq ho.size.symm
          clear ho hk bO13_t61 bO13_t62
          have bO13_t61 := hv0; clear hv0
          have bO13_t62 := hv1; clear hv1
          refine pl_take (.int .i64 (((k : Nat) : Int) : Int)) rfl (by kernel_rfl) (by kernel_rfl) (by kernel_rfl) (by kernel_rfl) ?_
          refine pl_take (.bool true) rfl (by kernel_rfl) (by kernel_rfl) (by kernel_rfl) (by kernel_rfl) ?_
          refine pl_take (.int .i64 0) rfl (by kernel_rfl) (by kernel_rfl) (by kernel_rfl) (by kernel_rfl) ?_
          refine pl_nil ?_
          refine qw_then ?_
          refine cw_clean [10, 11, 12, 13] (ws' := [(10, .pointer (some ⟨O13, 0, none⟩)), (11, .int .i64 (((k : Nat) : Int) : Int)), (12, .bool true), (13, .int .i64 0)]) (by kernel_rfl) (fun L => ?_)
          refine cw_ret ?_
          refine qw_then_ret ?_
          refine qw_block_ret ?_
          refine qw_then_ret ?_
          refine qw_then_ret ?_
          refine qw_block_ret ?_
          refine qw_block_ret ?_
          refine qw_then_ret ?_
          refine qw_then_ret ?_
          refine qw_block_ret ?_
          refine qw_block_ret ?_
          refine qw_then_ret ?_
          refine qw_then_ret ?_
          refine qw_block_ret ?_
          refine qw_then_ret ?_
          refine qw_scope_ret ?_
          refine qw_ret [.agg #[.int .i64 (sp.1 + ((j : Nat) : Int) : Int), .int .i64 ((sp.1 + ((j : Nat) : Int)) + mi : Int)], .int .i64 (((k : Nat) : Int) : Int), .bool true, .int .i64 0] rfl ⟨⟨_, by kernel_rfl, res_ld (ld29 (bO13_t61.1) (bO13_t62.1))⟩, (by kernel_rfl), (by kernel_rfl), (by kernel_rfl), trivial⟩ ?_
          exact ⟨by rw [hbest]; rfl, hE⟩
        ·
          have hit9 := Swath.NoHit.next (Swath.NoHit.le hitQ (show j * (2 * W + 2) + (2 * k + 0) = _ by omega)) (hfs.trans hsh)
          refine cw_plain ?_
          have hY66 := hX28.trans hX38
          have hY67 := hX17.trans hY66
          refine pl_take (.agg #[.int .i64 (o.p : Int), .int .i64 (o.f : Int), .int .i64 (o.lo : Int), .int .i64 (o.hi : Int), .int .i64 (o.nd : Int), .int .i64 (o.tn : Int), .int .i64 (o.sl : Int)]) rfl (by kernel_rfl) (by kernel_rfl) (by kernel_rfl) (ex_load rfl (by kernel_rfl) (ld26 ((BoxAt.ext (hY67.trans hX42) bO1_0).1) ((BoxAt.ext (hY67.trans hX42) bO1_1).1) ((BoxAt.ext (hY67.trans hX42) bO1_2).1) ((BoxAt.ext (hY67.trans hX42) bO1_3).1) ((BoxAt.ext (hY67.trans hX42) bO1_4).1) ((BoxAt.ext (hY67.trans hX42) bO1_5).1) ((BoxAt.ext (hY67.trans hX42) bO1_6).1))) ?_
          refine pl_take (.agg #[.int .i64 (sp.1 + ((j : Nat) : Int) : Int), .int .i64 ((sp.1 + ((j : Nat) : Int)) + mi : Int)]) rfl (by kernel_rfl) (by kernel_rfl) (by kernel_rfl) (ex_load rfl (by kernel_rfl) (ld29 ((BoxAt.ext (hX38.trans hX42) bO32_0).1) ((BoxAt.ext (hX38.trans hX42) bO32_1).1))) ?_
          refine pl_take (.int .i64 (((k : Nat) : Int) : Int)) rfl (by kernel_rfl) (by kernel_rfl) (by kernel_rfl) (by kernel_rfl) ?_
          refine pl_take (.agg #[.slice a n c]) rfl (by kernel_rfl) (by kernel_rfl) (by kernel_rfl) (ex_load rfl (by kernel_rfl) (ld39 ((BoxAt.ext (hY67.trans hX42) bO9_0).1))) ?_
          refine pl_step rfl (by kernel_rfl) (by kernel_rfl) (by kernel_rfl) (sn_call (f := 20) (args := #[.agg #[.int .i64 (o.p : Int), .int .i64 (o.f : Int), .int .i64 (o.lo : Int), .int .i64 (o.hi : Int), .int .i64 (o.nd : Int), .int .i64 (o.tn : Int), .int .i64 (o.sl : Int)], .agg #[.int .i64 (sp.1 + ((j : Nat) : Int) : Int), .int .i64 ((sp.1 + ((j : Nat) : Int)) + mi : Int)], .int .i64 (((k : Nat) : Int) : Int), .agg #[.slice a n c]]) (by kernel_rfl) ((Shows_r (s := (sp.1 + ((j : Nat) : Int), sp.1 + ((j : Nat) : Int) + mi)) (r := false) _ _ hA (e1.trans hE) hsh).mono ?_))
          rintro e w68 ⟨rfl, hb⟩
          replace hE := hE.trans hb
          replace hX42 := hX42.trans hb
          have hs69 := hb.size
          clear hb
          refine ⟨_, rfl, ?_⟩
          refine pl_nil ?_
          refine qw_then ?_
          refine cw_clean [2, 3, 5, 6, 9, 10, 14, 15, 16, 18, 59, 60, 66, 67, 74] (ws' := [(2, .int .i64 (mi : Int)), (3, .int .i64 (((W : Nat) : Int) : Int)), (5, .pointer (some ⟨O1, 0, none⟩)), (6, .pointer (some ⟨O5, 0, none⟩)), (9, .pointer (some ⟨O9, 0, none⟩)), (10, .pointer (some ⟨O13, 0, none⟩)), (14, .int .i64 (sp.1 + ((j : Nat) : Int) : Int)), (15, .pointer (some ⟨O32, 0, none⟩)), (16, .int .i64 (((k : Nat) : Int) : Int)), (18, .int .i64 (((k : Nat) : Int) : Int)), (59, .int .i64 (((W + 1 : Nat) : Int) : Int)), (60, .int .i64 (((k : Nat) : Int) : Int)), (66, .agg #[.int .i64 (((k : Nat) : Int) : Int), .int .i64 (-(((k : Nat) : Int)) : Int)]), (67, .int .i64 0), (74, .bool false)]) (by kernel_rfl) (fun L => ?_)
          refine cw_f (by kernel_rfl) ?_
          refine cw_skip ?_
          refine qw_then ?_
          refine cw_clean [2, 3, 5, 6, 9, 10, 14, 15, 16, 18, 59, 60, 66, 67] (ws' := [(2, .int .i64 (mi : Int)), (3, .int .i64 (((W : Nat) : Int) : Int)), (5, .pointer (some ⟨O1, 0, none⟩)), (6, .pointer (some ⟨O5, 0, none⟩)), (9, .pointer (some ⟨O9, 0, none⟩)), (10, .pointer (some ⟨O13, 0, none⟩)), (14, .int .i64 (sp.1 + ((j : Nat) : Int) : Int)), (15, .pointer (some ⟨O32, 0, none⟩)), (16, .int .i64 (((k : Nat) : Int) : Int)), (18, .int .i64 (((k : Nat) : Int) : Int)), (59, .int .i64 (((W + 1 : Nat) : Int) : Int)), (60, .int .i64 (((k : Nat) : Int) : Int)), (66, .agg #[.int .i64 (((k : Nat) : Int) : Int), .int .i64 (-(((k : Nat) : Int)) : Int)]), (67, .int .i64 0)]) (by kernel_rfl) (fun L => ?_)
          refine cw_seq ?_
          refine cw_plain ?_
          refine pl_take (.int .i64 (((k : Nat) : Int) : Int)) rfl (by kernel_rfl) (by kernel_rfl) (by kernel_rfl) (by kernel_rfl) ?_
          refine pl_take (.int .i64 (((W : Nat) : Int) : Int)) rfl (by kernel_rfl) (by kernel_rfl) (by kernel_rfl) (by kernel_rfl) ?_
          by_cases hc70 : (((k : Nat) : Int) : Int) = (((W : Nat) : Int) : Int)
          ·
            refine pl_take (.bool true) rfl (by kernel_rfl) (by kernel_rfl) (by kernel_rfl) (ev_eq (show _ = Result.ok (Next.value (Value.bool ((((k : Nat) : Int) : Int) == (((W : Nat) : Int) : Int)))) _ from by kernel_rfl) (hc70)) ?_
            refine pl_take (.bool true) rfl (by kernel_rfl) (by kernel_rfl) (by kernel_rfl) (by kernel_rfl) ?_
            refine pl_take (.int .i64 (((k : Nat) : Int) : Int)) rfl (by kernel_rfl) (by kernel_rfl) (by kernel_rfl) (by kernel_rfl) ?_
            refine pl_take (.int .i64 (((k : Nat) : Int) : Int)) rfl (by kernel_rfl) (by kernel_rfl) (by kernel_rfl) (by kernel_rfl) ?_
            refine pl_take (.int .i64 (-(((k : Nat) : Int)) : Int)) rfl (by kernel_rfl) (by kernel_rfl) (by kernel_rfl) (ev_int (ev_wrap (a := 0 - (((k : Nat) : Int))) (by kernel_rfl) (by omega) (by omega)) (by omega)) ?_
            by_cases hc71 : (((k : Nat) : Int) : Int) = (-(((k : Nat) : Int)) : Int)
            ·
              have hk0 : k = 0 := by omega
              have hW0 : W = 0 := by omega
              have hit8 : Swath.NoHit (Swath.bestP o sp mi W l) (j * (2 * W + 2) + 2) := by
                subst hk0 hW0
                refine Swath.NoHit.le (Swath.NoHit.next hit9 ?_) (by omega)
                have h8 := Swath.best_at (o := o) (sp := sp) (mi := mi) (wd := 0) (l := l) (j := j) (x := 1) (by omega)
                rw [show Swath.lkQ 1 = ((0 : Nat) : Int) by decide] at h8
                exact (show Swath.bestP o sp mi 0 l (j * (2 * 0 + 2) + (2 * 0 + 0) + 1) = _ from h8).trans hsh
              refine pl_take (.bool true) rfl (by kernel_rfl) (by kernel_rfl) (by kernel_rfl) (ev_eq (show _ = Result.ok (Next.value (Value.bool ((((k : Nat) : Int) : Int) == (-(((k : Nat) : Int)) : Int)))) _ from by kernel_rfl) (hc71)) ?_
              refine pl_take (.bool true) rfl (by kernel_rfl) (by kernel_rfl) (by kernel_rfl) (by kernel_rfl) ?_
              refine pl_nil ?_
              refine qw_then ?_
              refine cw_clean [2, 3, 5, 6, 9, 10, 14, 15, 16, 59, 60, 66, 67, 85] (ws' := [(2, .int .i64 (mi : Int)), (3, .int .i64 (((W : Nat) : Int) : Int)), (5, .pointer (some ⟨O1, 0, none⟩)), (6, .pointer (some ⟨O5, 0, none⟩)), (9, .pointer (some ⟨O9, 0, none⟩)), (10, .pointer (some ⟨O13, 0, none⟩)), (14, .int .i64 (sp.1 + ((j : Nat) : Int) : Int)), (15, .pointer (some ⟨O32, 0, none⟩)), (16, .int .i64 (((k : Nat) : Int) : Int)), (59, .int .i64 (((W + 1 : Nat) : Int) : Int)), (60, .int .i64 (((k : Nat) : Int) : Int)), (66, .agg #[.int .i64 (((k : Nat) : Int) : Int), .int .i64 (-(((k : Nat) : Int)) : Int)]), (67, .int .i64 0), (85, .bool true)]) (by kernel_rfl) (fun L => ?_)
              refine cw_t (by kernel_rfl) ?_
              refine cw_exit ?_
              refine qw_block_on (by decide) ?_
              refine qw_then_exit ?_
              refine qw_then_exit ?_
              refine qw_block_on (by decide) ?_
              refine qw_block_on (by decide) ?_
              refine qw_then_exit ?_
              refine qw_then_exit ?_
              refine qw_block_on (by decide) ?_
              refine qw_block_out ?_
              refine qw_then ?_
              refine cw_plain ?_
              refine pl_take (.int .i64 (sp.1 + ((j : Nat) : Int) : Int)) rfl (by kernel_rfl) (by kernel_rfl) (by kernel_rfl) (by kernel_rfl) ?_
              refine pl_take (.int .i64 (sp.1 + ((j + 1 : Nat) : Int) : Int)) rfl (by kernel_rfl) (by kernel_rfl) (by kernel_rfl) (ev_int (ev_wrap (a := sp.1 + ((j : Nat) : Int) + 1) (by kernel_rfl) (by omega) (by omega)) (by omega)) ?_
              refine pl_take (.int .i64 (sp.1 + ((j + 1 : Nat) : Int) : Int)) rfl (by kernel_rfl) (by kernel_rfl) (by kernel_rfl) (by kernel_rfl) ?_
              refine pl_nil ?_
              refine qw_round [2, 3, 5, 6, 9, 10, 14] (ws' := [(2, .int .i64 (mi : Int)), (3, .int .i64 (((W : Nat) : Int) : Int)), (5, .pointer (some ⟨O1, 0, none⟩)), (6, .pointer (some ⟨O5, 0, none⟩)), (9, .pointer (some ⟨O9, 0, none⟩)), (10, .pointer (some ⟨O13, 0, none⟩)), (14, .int .i64 (sp.1 + ((j + 1 : Nat) : Int) : Int))]) (by kernel_rfl) _ ?_ ⟨(j + 1), rfl, rfl, (Nat.le_trans hs29 (Nat.le_trans hs34 (Nat.le_trans hs37 (Nat.le_trans hs39 (Nat.le_trans hs43 hs69))))), hE, (hY66.trans hX42), (Swath.NoHit.le hit8 (by rw [Nat.succ_mul]; omega)), by omega⟩
              omega
            ·
              refine pl_take (.bool false) rfl (by kernel_rfl) (by kernel_rfl) (by kernel_rfl) (ev_neq (show _ = Result.ok (Next.value (Value.bool ((((k : Nat) : Int) : Int) == (-(((k : Nat) : Int)) : Int)))) _ from by kernel_rfl) (hc71)) ?_
              refine pl_take (.bool false) rfl (by kernel_rfl) (by kernel_rfl) (by kernel_rfl) (by kernel_rfl) ?_
              refine pl_nil ?_
              refine qw_then ?_
              refine cw_clean [2, 3, 5, 6, 9, 10, 14, 15, 16, 59, 60, 66, 67, 85] (ws' := [(2, .int .i64 (mi : Int)), (3, .int .i64 (((W : Nat) : Int) : Int)), (5, .pointer (some ⟨O1, 0, none⟩)), (6, .pointer (some ⟨O5, 0, none⟩)), (9, .pointer (some ⟨O9, 0, none⟩)), (10, .pointer (some ⟨O13, 0, none⟩)), (14, .int .i64 (sp.1 + ((j : Nat) : Int) : Int)), (15, .pointer (some ⟨O32, 0, none⟩)), (16, .int .i64 (((k : Nat) : Int) : Int)), (59, .int .i64 (((W + 1 : Nat) : Int) : Int)), (60, .int .i64 (((k : Nat) : Int) : Int)), (66, .agg #[.int .i64 (((k : Nat) : Int) : Int), .int .i64 (-(((k : Nat) : Int)) : Int)]), (67, .int .i64 0), (85, .bool false)]) (by kernel_rfl) (fun L => ?_)
              refine cw_f (by kernel_rfl) ?_
              refine cw_skip ?_
              refine qw_block ?_
              refine qw_then ?_
              refine cw_plain ?_
              refine pl_take (.int .i64 1) rfl (by kernel_rfl) (by kernel_rfl) (by kernel_rfl) (by kernel_rfl) ?_
              refine pl_take (.int .i64 1) rfl (by kernel_rfl) (by kernel_rfl) (by kernel_rfl) (by kernel_rfl) ?_
              refine pl_nil ?_
              refine qw_round [2, 3, 5, 6, 9, 10, 14, 15, 16, 59, 60, 66, 67] (ws' := [(2, .int .i64 (mi : Int)), (3, .int .i64 (((W : Nat) : Int) : Int)), (5, .pointer (some ⟨O1, 0, none⟩)), (6, .pointer (some ⟨O5, 0, none⟩)), (9, .pointer (some ⟨O9, 0, none⟩)), (10, .pointer (some ⟨O13, 0, none⟩)), (14, .int .i64 (sp.1 + ((j : Nat) : Int) : Int)), (15, .pointer (some ⟨O32, 0, none⟩)), (16, .int .i64 (((k : Nat) : Int) : Int)), (59, .int .i64 (((W + 1 : Nat) : Int) : Int)), (60, .int .i64 (((k : Nat) : Int) : Int)), (66, .agg #[.int .i64 (((k : Nat) : Int) : Int), .int .i64 (-(((k : Nat) : Int)) : Int)]), (67, .int .i64 1)]) (by kernel_rfl) _ ?_ ⟨1, rfl, rfl, (Nat.le_trans hs43 hs69), hE, hX42, (Swath.NoHit.le (hit9) (by omega)), by omega⟩
              omega
          ·
            refine pl_take (.bool false) rfl (by kernel_rfl) (by kernel_rfl) (by kernel_rfl) (ev_neq (show _ = Result.ok (Next.value (Value.bool ((((k : Nat) : Int) : Int) == (((W : Nat) : Int) : Int)))) _ from by kernel_rfl) (hc70)) ?_
            refine pl_take (.bool false) rfl (by kernel_rfl) (by kernel_rfl) (by kernel_rfl) (by kernel_rfl) ?_
            refine pl_skip rfl (by kernel_rfl) (by kernel_rfl) (by kernel_rfl) ?_
            refine pl_skip rfl (by kernel_rfl) (by kernel_rfl) (by kernel_rfl) ?_
            refine pl_skip rfl (by kernel_rfl) (by kernel_rfl) (by kernel_rfl) ?_
            refine pl_skip rfl (by kernel_rfl) (by kernel_rfl) (by kernel_rfl) ?_
            refine pl_take (.bool false) rfl (by kernel_rfl) (by kernel_rfl) (by kernel_rfl) (by kernel_rfl) ?_
            refine pl_nil ?_
            refine qw_then ?_
            refine cw_clean [2, 3, 5, 6, 9, 10, 14, 15, 16, 59, 60, 66, 67, 85] (ws' := [(2, .int .i64 (mi : Int)), (3, .int .i64 (((W : Nat) : Int) : Int)), (5, .pointer (some ⟨O1, 0, none⟩)), (6, .pointer (some ⟨O5, 0, none⟩)), (9, .pointer (some ⟨O9, 0, none⟩)), (10, .pointer (some ⟨O13, 0, none⟩)), (14, .int .i64 (sp.1 + ((j : Nat) : Int) : Int)), (15, .pointer (some ⟨O32, 0, none⟩)), (16, .int .i64 (((k : Nat) : Int) : Int)), (59, .int .i64 (((W + 1 : Nat) : Int) : Int)), (60, .int .i64 (((k : Nat) : Int) : Int)), (66, .agg #[.int .i64 (((k : Nat) : Int) : Int), .int .i64 (-(((k : Nat) : Int)) : Int)]), (67, .int .i64 0), (85, .bool false)]) (by kernel_rfl) (fun L => ?_)
            refine cw_f (by kernel_rfl) ?_
            refine cw_skip ?_
            refine qw_block ?_
            refine qw_then ?_
            refine cw_plain ?_
            refine pl_take (.int .i64 1) rfl (by kernel_rfl) (by kernel_rfl) (by kernel_rfl) (by kernel_rfl) ?_
            refine pl_take (.int .i64 1) rfl (by kernel_rfl) (by kernel_rfl) (by kernel_rfl) (by kernel_rfl) ?_
            refine pl_nil ?_
            refine qw_round [2, 3, 5, 6, 9, 10, 14, 15, 16, 59, 60, 66, 67] (ws' := [(2, .int .i64 (mi : Int)), (3, .int .i64 (((W : Nat) : Int) : Int)), (5, .pointer (some ⟨O1, 0, none⟩)), (6, .pointer (some ⟨O5, 0, none⟩)), (9, .pointer (some ⟨O9, 0, none⟩)), (10, .pointer (some ⟨O13, 0, none⟩)), (14, .int .i64 (sp.1 + ((j : Nat) : Int) : Int)), (15, .pointer (some ⟨O32, 0, none⟩)), (16, .int .i64 (((k : Nat) : Int) : Int)), (59, .int .i64 (((W + 1 : Nat) : Int) : Int)), (60, .int .i64 (((k : Nat) : Int) : Int)), (66, .agg #[.int .i64 (((k : Nat) : Int) : Int), .int .i64 (-(((k : Nat) : Int)) : Int)]), (67, .int .i64 1)]) (by kernel_rfl) _ ?_ ⟨1, rfl, rfl, (Nat.le_trans hs43 hs69), hE, hX42, (Swath.NoHit.le (hit9) (by omega)), by omega⟩
            omega
      ·
        refine cw_seq ?_
        refine cw_plain ?_
        refine pl_take (.bool true) rfl (by kernel_rfl) (by kernel_rfl) (by kernel_rfl) (by kernel_rfl) ?_
        refine pl_nil ?_
        refine qw_then ?_
        refine cw_seq ?_
        refine cw_t (by kernel_rfl) ?_
        refine cw_skip ?_
        refine qw_then ?_
        refine cw_seq ?_
        refine cw_block ?_
        refine cw_seq ?_
        refine cw_plain ?_
        refine pl_take (.int .i64 (-(((k : Nat) : Int)) : Int)) rfl (by kernel_rfl) (by kernel_rfl) (by kernel_rfl) (by kernel_rfl) ?_
        refine pl_take (.int .i64 (-(((k : Nat) : Int)) : Int)) rfl (by kernel_rfl) (by kernel_rfl) (by kernel_rfl) (by kernel_rfl) ?_
        refine pl_nil ?_
        refine qw_then ?_
        refine cw_clean [2, 3, 5, 6, 9, 10, 14, 15, 16, 18, 59, 60, 66, 67] (ws' := [(2, .int .i64 (mi : Int)), (3, .int .i64 (((W : Nat) : Int) : Int)), (5, .pointer (some ⟨O1, 0, none⟩)), (6, .pointer (some ⟨O5, 0, none⟩)), (9, .pointer (some ⟨O9, 0, none⟩)), (10, .pointer (some ⟨O13, 0, none⟩)), (14, .int .i64 (sp.1 + ((j : Nat) : Int) : Int)), (15, .pointer (some ⟨O32, 0, none⟩)), (16, .int .i64 (((k : Nat) : Int) : Int)), (18, .int .i64 (-(((k : Nat) : Int)) : Int)), (59, .int .i64 (((W + 1 : Nat) : Int) : Int)), (60, .int .i64 (((k : Nat) : Int) : Int)), (66, .agg #[.int .i64 (((k : Nat) : Int) : Int), .int .i64 (-(((k : Nat) : Int)) : Int)]), (67, .int .i64 1)]) (by kernel_rfl) (fun L => ?_)
        refine cw_seq ?_
        refine cw_seq ?_
        have hlk : Swath.lkQ (2 * k + 1) = -((k : Nat) : Int) := Swath.lk_odd k
        have hfs := Swath.best_at (o := o) (sp := sp) (mi := mi) (wd := W) (l := l) (j := j) (x := 2 * k + 1) (by omega)
        rw [hlk] at hfs
        rcases Bool.eq_false_or_eq_true (Swath.showsB o (sp.1 + ((j : Nat) : Int), sp.1 + ((j : Nat) : Int) + mi) (-((k : Nat) : Int)) l) with hsh | hsh
        ·
          have hbest := Swath.best_hit (o := o) (sp := sp) (mi := mi) (wd := W) (l := l) (j := j) (x := 2 * k + 1) (by omega) (by omega) (Swath.NoHit.le hitQ (by omega)) (by rw [hlk]; exact hsh)
          rw [hlk] at hbest
          refine cw_plain ?_
          have hY72 := hX28.trans hX38
          have hY73 := hX17.trans hY72
          refine pl_take (.agg #[.int .i64 (o.p : Int), .int .i64 (o.f : Int), .int .i64 (o.lo : Int), .int .i64 (o.hi : Int), .int .i64 (o.nd : Int), .int .i64 (o.tn : Int), .int .i64 (o.sl : Int)]) rfl (by kernel_rfl) (by kernel_rfl) (by kernel_rfl) (ex_load rfl (by kernel_rfl) (ld26 ((BoxAt.ext (hY73.trans hX42) bO1_0).1) ((BoxAt.ext (hY73.trans hX42) bO1_1).1) ((BoxAt.ext (hY73.trans hX42) bO1_2).1) ((BoxAt.ext (hY73.trans hX42) bO1_3).1) ((BoxAt.ext (hY73.trans hX42) bO1_4).1) ((BoxAt.ext (hY73.trans hX42) bO1_5).1) ((BoxAt.ext (hY73.trans hX42) bO1_6).1))) ?_
          refine pl_take (.agg #[.int .i64 (sp.1 + ((j : Nat) : Int) : Int), .int .i64 ((sp.1 + ((j : Nat) : Int)) + mi : Int)]) rfl (by kernel_rfl) (by kernel_rfl) (by kernel_rfl) (ex_load rfl (by kernel_rfl) (ld29 ((BoxAt.ext (hX38.trans hX42) bO32_0).1) ((BoxAt.ext (hX38.trans hX42) bO32_1).1))) ?_
          refine pl_take (.int .i64 (-(((k : Nat) : Int)) : Int)) rfl (by kernel_rfl) (by kernel_rfl) (by kernel_rfl) (by kernel_rfl) ?_
          refine pl_take (.agg #[.slice a n c]) rfl (by kernel_rfl) (by kernel_rfl) (by kernel_rfl) (ex_load rfl (by kernel_rfl) (ld39 ((BoxAt.ext (hY73.trans hX42) bO9_0).1))) ?_
          refine pl_step rfl (by kernel_rfl) (by kernel_rfl) (by kernel_rfl) (sn_call (f := 20) (args := #[.agg #[.int .i64 (o.p : Int), .int .i64 (o.f : Int), .int .i64 (o.lo : Int), .int .i64 (o.hi : Int), .int .i64 (o.nd : Int), .int .i64 (o.tn : Int), .int .i64 (o.sl : Int)], .agg #[.int .i64 (sp.1 + ((j : Nat) : Int) : Int), .int .i64 ((sp.1 + ((j : Nat) : Int)) + mi : Int)], .int .i64 (-(((k : Nat) : Int)) : Int), .agg #[.slice a n c]]) (by kernel_rfl) ((Shows_r (s := (sp.1 + ((j : Nat) : Int), sp.1 + ((j : Nat) : Int) + mi)) (r := true) _ _ hA (e1.trans hE) hsh).mono ?_))
          rintro e w74 ⟨rfl, hb⟩
          replace hE := hE.trans hb
          replace hX42 := hX42.trans hb
          have hs75 := hb.size
          clear hb
          refine ⟨_, rfl, ?_⟩
          refine pl_nil ?_
          refine qw_then ?_
          refine cw_clean [2, 3, 5, 6, 9, 10, 14, 15, 16, 18, 59, 60, 66, 67, 74] (ws' := [(2, .int .i64 (mi : Int)), (3, .int .i64 (((W : Nat) : Int) : Int)), (5, .pointer (some ⟨O1, 0, none⟩)), (6, .pointer (some ⟨O5, 0, none⟩)), (9, .pointer (some ⟨O9, 0, none⟩)), (10, .pointer (some ⟨O13, 0, none⟩)), (14, .int .i64 (sp.1 + ((j : Nat) : Int) : Int)), (15, .pointer (some ⟨O32, 0, none⟩)), (16, .int .i64 (((k : Nat) : Int) : Int)), (18, .int .i64 (-(((k : Nat) : Int)) : Int)), (59, .int .i64 (((W + 1 : Nat) : Int) : Int)), (60, .int .i64 (((k : Nat) : Int) : Int)), (66, .agg #[.int .i64 (((k : Nat) : Int) : Int), .int .i64 (-(((k : Nat) : Int)) : Int)]), (67, .int .i64 1), (74, .bool true)]) (by kernel_rfl) (fun L => ?_)
          refine cw_t (by kernel_rfl) ?_
          refine cw_seq ?_
          refine cw_plain ?_
          refine pl_take (.agg #[.int .i64 (sp.1 + ((j : Nat) : Int) : Int), .int .i64 ((sp.1 + ((j : Nat) : Int)) + mi : Int)]) rfl (by kernel_rfl) (by kernel_rfl) (by kernel_rfl) (ex_load rfl (by kernel_rfl) (ld29 ((BoxAt.ext (hX38.trans hX42) bO32_0).1) ((BoxAt.ext (hX38.trans hX42) bO32_1).1))) ?_
          refine pl_take (.int .i64 (-(((k : Nat) : Int)) : Int)) rfl (by kernel_rfl) (by kernel_rfl) (by kernel_rfl) (by kernel_rfl) ?_
          have bO1_t77 := (BoxAt.ext (hY73.trans hX42) bO1_0)
          have bO1_t78 := (BoxAt.ext (hY73.trans hX42) bO1_1)
          have bO1_t79 := (BoxAt.ext (hY73.trans hX42) bO1_2)
          have bO1_t80 := (BoxAt.ext (hY73.trans hX42) bO1_3)
          have bO1_t81 := (BoxAt.ext (hY73.trans hX42) bO1_4)
          have bO1_t82 := (BoxAt.ext (hY73.trans hX42) bO1_5)
          have bO1_t83 := (BoxAt.ext (hY73.trans hX42) bO1_6)
          have bO5_t84 := (BoxAt.ext (hY73.trans hX42) bO5_0)
          have bO5_t85 := (BoxAt.ext (hY73.trans hX42) bO5_1)
          have bO9_t86 := (BoxAt.ext (hY73.trans hX42) bO9_0)
          have bO13_t87 := (BoxAt.ext (hY73.trans hX42) bO13_0)
          have bO13_t88 := (BoxAt.ext (hY73.trans hX42) bO13_1)
          have bO32_t89 := (BoxAt.ext (hX38.trans hX42) bO32_0)
          have bO32_t90 := (BoxAt.ext (hX38.trans hX42) bO32_1)
          refine pl_put rfl (by kernel_rfl) (by kernel_rfl) (sn_set2 (O := O13) (j := 0) (v := .int .i64 (sp.1 + ((j : Nat) : Int) : Int)) (v' := .int .i64 ((sp.1 + ((j : Nat) : Int)) + mi : Int)) (ex_store (p := .pointer (some ⟨O13, 0, none⟩)) (v := .agg #[.int .i64 (sp.1 + ((j : Nat) : Int) : Int), .int .i64 ((sp.1 + ((j : Nat) : Int)) + mi : Int)]) rfl (by kernel_rfl) (by kernel_rfl) (st29 bO13_t87.1 bO13_t87.2 bO13_t88.1 bO13_t88.2)) bO13_t87 bO13_t88 ?_)
          intro X76 ho hv0 hv1 hk
          replace hE := ho.ext hE (Nat.le_trans (Nat.le_trans hs3 (Nat.le_trans hs7 hs11)) (Nat.le_of_eq hzO13))
          replace bO1_t77 := ho.box (Nat.ne_of_gt (Nat.lt_of_lt_of_le lt4 (Nat.le_trans (Nat.le_trans hs7 hs11) (Nat.le_of_eq hzO13)))) bO1_t77
          replace bO1_t78 := ho.box (Nat.ne_of_gt (Nat.lt_of_lt_of_le lt4 (Nat.le_trans (Nat.le_trans hs7 hs11) (Nat.le_of_eq hzO13)))) bO1_t78
          replace bO1_t79 := ho.box (Nat.ne_of_gt (Nat.lt_of_lt_of_le lt4 (Nat.le_trans (Nat.le_trans hs7 hs11) (Nat.le_of_eq hzO13)))) bO1_t79
          replace bO1_t80 := ho.box (Nat.ne_of_gt (Nat.lt_of_lt_of_le lt4 (Nat.le_trans (Nat.le_trans hs7 hs11) (Nat.le_of_eq hzO13)))) bO1_t80
          replace bO1_t81 := ho.box (Nat.ne_of_gt (Nat.lt_of_lt_of_le lt4 (Nat.le_trans (Nat.le_trans hs7 hs11) (Nat.le_of_eq hzO13)))) bO1_t81
          replace bO1_t82 := ho.box (Nat.ne_of_gt (Nat.lt_of_lt_of_le lt4 (Nat.le_trans (Nat.le_trans hs7 hs11) (Nat.le_of_eq hzO13)))) bO1_t82
          replace bO1_t83 := ho.box (Nat.ne_of_gt (Nat.lt_of_lt_of_le lt4 (Nat.le_trans (Nat.le_trans hs7 hs11) (Nat.le_of_eq hzO13)))) bO1_t83
          replace bO5_t84 := ho.box (Nat.ne_of_gt (Nat.lt_of_lt_of_le lt8 (Nat.le_trans hs11 (Nat.le_of_eq hzO13)))) bO5_t84
          replace bO5_t85 := ho.box (Nat.ne_of_gt (Nat.lt_of_lt_of_le lt8 (Nat.le_trans hs11 (Nat.le_of_eq hzO13)))) bO5_t85
          replace bO9_t86 := ho.box (Nat.ne_of_gt (Nat.lt_of_lt_of_le lt12 (Nat.le_of_eq hzO13))) bO9_t86
          replace bO32_t89 := ho.box (Nat.ne_of_lt (Nat.lt_of_lt_of_le lt16 (Nat.le_trans (Nat.le_trans hs19 (Nat.le_trans hs21 (Nat.le_trans hs23 (Nat.le_trans hs25 (Nat.le_trans hs27 hs29))))) (Nat.le_of_eq hzO32)))) bO32_t89
          replace bO32_t90 := ho.box (Nat.ne_of_lt (Nat.lt_of_lt_of_le lt16 (Nat.le_trans (Nat.le_trans hs19 (Nat.le_trans hs21 (Nat.le_trans hs23 (Nat.le_trans hs25 (Nat.le_trans hs27 hs29))))) (Nat.le_of_eq hzO32)))) bO32_t90
          have hs91 : w74.heap.size ≤ X76.heap.size := Nat.le_of_eq ho.size.symm
          clear ho hk bO13_t87 bO13_t88
          have bO13_t87 := hv0; clear hv0
          have bO13_t88 := hv1; clear hv1
          refine pl_take (.int .i64 (-(((k : Nat) : Int)) : Int)) rfl (by kernel_rfl) (by kernel_rfl) (by kernel_rfl) (by kernel_rfl) ?_
          refine pl_take (.bool true) rfl (by kernel_rfl) (by kernel_rfl) (by kernel_rfl) (by kernel_rfl) ?_
          refine pl_take (.int .i64 0) rfl (by kernel_rfl) (by kernel_rfl) (by kernel_rfl) (by kernel_rfl) ?_
          refine pl_nil ?_
          refine qw_then ?_
          refine cw_clean [10, 11, 12, 13] (ws' := [(10, .pointer (some ⟨O13, 0, none⟩)), (11, .int .i64 (-(((k : Nat) : Int)) : Int)), (12, .bool true), (13, .int .i64 0)]) (by kernel_rfl) (fun L => ?_)
          refine cw_ret ?_
          refine qw_then_ret ?_
          refine qw_block_ret ?_
          refine qw_then_ret ?_
          refine qw_then_ret ?_
          refine qw_block_ret ?_
          refine qw_block_ret ?_
          refine qw_then_ret ?_
          refine qw_then_ret ?_
          refine qw_block_ret ?_
          refine qw_block_ret ?_
          refine qw_then_ret ?_
          refine qw_then_ret ?_
          refine qw_block_ret ?_
          refine qw_then_ret ?_
          refine qw_scope_ret ?_
          refine qw_ret [.agg #[.int .i64 (sp.1 + ((j : Nat) : Int) : Int), .int .i64 ((sp.1 + ((j : Nat) : Int)) + mi : Int)], .int .i64 (-(((k : Nat) : Int)) : Int), .bool true, .int .i64 0] rfl ⟨⟨_, by kernel_rfl, res_ld (ld29 (bO13_t87.1) (bO13_t88.1))⟩, (by kernel_rfl), (by kernel_rfl), (by kernel_rfl), trivial⟩ ?_
          exact ⟨by rw [hbest]; rfl, hE⟩
        ·
          have hit9 := Swath.NoHit.next (Swath.NoHit.le hitQ (show j * (2 * W + 2) + (2 * k + 1) = _ by omega)) (hfs.trans hsh)
          refine cw_plain ?_
          have hY92 := hX28.trans hX38
          have hY93 := hX17.trans hY92
          refine pl_take (.agg #[.int .i64 (o.p : Int), .int .i64 (o.f : Int), .int .i64 (o.lo : Int), .int .i64 (o.hi : Int), .int .i64 (o.nd : Int), .int .i64 (o.tn : Int), .int .i64 (o.sl : Int)]) rfl (by kernel_rfl) (by kernel_rfl) (by kernel_rfl) (ex_load rfl (by kernel_rfl) (ld26 ((BoxAt.ext (hY93.trans hX42) bO1_0).1) ((BoxAt.ext (hY93.trans hX42) bO1_1).1) ((BoxAt.ext (hY93.trans hX42) bO1_2).1) ((BoxAt.ext (hY93.trans hX42) bO1_3).1) ((BoxAt.ext (hY93.trans hX42) bO1_4).1) ((BoxAt.ext (hY93.trans hX42) bO1_5).1) ((BoxAt.ext (hY93.trans hX42) bO1_6).1))) ?_
          refine pl_take (.agg #[.int .i64 (sp.1 + ((j : Nat) : Int) : Int), .int .i64 ((sp.1 + ((j : Nat) : Int)) + mi : Int)]) rfl (by kernel_rfl) (by kernel_rfl) (by kernel_rfl) (ex_load rfl (by kernel_rfl) (ld29 ((BoxAt.ext (hX38.trans hX42) bO32_0).1) ((BoxAt.ext (hX38.trans hX42) bO32_1).1))) ?_
          refine pl_take (.int .i64 (-(((k : Nat) : Int)) : Int)) rfl (by kernel_rfl) (by kernel_rfl) (by kernel_rfl) (by kernel_rfl) ?_
          refine pl_take (.agg #[.slice a n c]) rfl (by kernel_rfl) (by kernel_rfl) (by kernel_rfl) (ex_load rfl (by kernel_rfl) (ld39 ((BoxAt.ext (hY93.trans hX42) bO9_0).1))) ?_
          refine pl_step rfl (by kernel_rfl) (by kernel_rfl) (by kernel_rfl) (sn_call (f := 20) (args := #[.agg #[.int .i64 (o.p : Int), .int .i64 (o.f : Int), .int .i64 (o.lo : Int), .int .i64 (o.hi : Int), .int .i64 (o.nd : Int), .int .i64 (o.tn : Int), .int .i64 (o.sl : Int)], .agg #[.int .i64 (sp.1 + ((j : Nat) : Int) : Int), .int .i64 ((sp.1 + ((j : Nat) : Int)) + mi : Int)], .int .i64 (-(((k : Nat) : Int)) : Int), .agg #[.slice a n c]]) (by kernel_rfl) ((Shows_r (s := (sp.1 + ((j : Nat) : Int), sp.1 + ((j : Nat) : Int) + mi)) (r := false) _ _ hA (e1.trans hE) hsh).mono ?_))
          rintro e w94 ⟨rfl, hb⟩
          replace hE := hE.trans hb
          replace hX42 := hX42.trans hb
          have hs95 := hb.size
          clear hb
          refine ⟨_, rfl, ?_⟩
          refine pl_nil ?_
          refine qw_then ?_
          refine cw_clean [2, 3, 5, 6, 9, 10, 14, 15, 16, 18, 59, 60, 66, 67, 74] (ws' := [(2, .int .i64 (mi : Int)), (3, .int .i64 (((W : Nat) : Int) : Int)), (5, .pointer (some ⟨O1, 0, none⟩)), (6, .pointer (some ⟨O5, 0, none⟩)), (9, .pointer (some ⟨O9, 0, none⟩)), (10, .pointer (some ⟨O13, 0, none⟩)), (14, .int .i64 (sp.1 + ((j : Nat) : Int) : Int)), (15, .pointer (some ⟨O32, 0, none⟩)), (16, .int .i64 (((k : Nat) : Int) : Int)), (18, .int .i64 (-(((k : Nat) : Int)) : Int)), (59, .int .i64 (((W + 1 : Nat) : Int) : Int)), (60, .int .i64 (((k : Nat) : Int) : Int)), (66, .agg #[.int .i64 (((k : Nat) : Int) : Int), .int .i64 (-(((k : Nat) : Int)) : Int)]), (67, .int .i64 1), (74, .bool false)]) (by kernel_rfl) (fun L => ?_)
          refine cw_f (by kernel_rfl) ?_
          refine cw_skip ?_
          refine qw_then ?_
          refine cw_clean [2, 3, 5, 6, 9, 10, 14, 15, 16, 18, 59, 60, 66, 67] (ws' := [(2, .int .i64 (mi : Int)), (3, .int .i64 (((W : Nat) : Int) : Int)), (5, .pointer (some ⟨O1, 0, none⟩)), (6, .pointer (some ⟨O5, 0, none⟩)), (9, .pointer (some ⟨O9, 0, none⟩)), (10, .pointer (some ⟨O13, 0, none⟩)), (14, .int .i64 (sp.1 + ((j : Nat) : Int) : Int)), (15, .pointer (some ⟨O32, 0, none⟩)), (16, .int .i64 (((k : Nat) : Int) : Int)), (18, .int .i64 (-(((k : Nat) : Int)) : Int)), (59, .int .i64 (((W + 1 : Nat) : Int) : Int)), (60, .int .i64 (((k : Nat) : Int) : Int)), (66, .agg #[.int .i64 (((k : Nat) : Int) : Int), .int .i64 (-(((k : Nat) : Int)) : Int)]), (67, .int .i64 1)]) (by kernel_rfl) (fun L => ?_)
          refine cw_seq ?_
          refine cw_plain ?_
          refine pl_take (.int .i64 (((k : Nat) : Int) : Int)) rfl (by kernel_rfl) (by kernel_rfl) (by kernel_rfl) (by kernel_rfl) ?_
          refine pl_take (.int .i64 (((W : Nat) : Int) : Int)) rfl (by kernel_rfl) (by kernel_rfl) (by kernel_rfl) (by kernel_rfl) ?_
          by_cases hc96 : (((k : Nat) : Int) : Int) = (((W : Nat) : Int) : Int)
          ·
            refine pl_take (.bool true) rfl (by kernel_rfl) (by kernel_rfl) (by kernel_rfl) (ev_eq (show _ = Result.ok (Next.value (Value.bool ((((k : Nat) : Int) : Int) == (((W : Nat) : Int) : Int)))) _ from by kernel_rfl) (hc96)) ?_
            refine pl_take (.bool true) rfl (by kernel_rfl) (by kernel_rfl) (by kernel_rfl) (by kernel_rfl) ?_
            refine pl_take (.int .i64 (-(((k : Nat) : Int)) : Int)) rfl (by kernel_rfl) (by kernel_rfl) (by kernel_rfl) (by kernel_rfl) ?_
            refine pl_take (.int .i64 (((k : Nat) : Int) : Int)) rfl (by kernel_rfl) (by kernel_rfl) (by kernel_rfl) (by kernel_rfl) ?_
            refine pl_take (.int .i64 (-(((k : Nat) : Int)) : Int)) rfl (by kernel_rfl) (by kernel_rfl) (by kernel_rfl) (ev_int (ev_wrap (a := 0 - (((k : Nat) : Int))) (by kernel_rfl) (by omega) (by omega)) (by omega)) ?_
            by_cases hc97 : (-(((k : Nat) : Int)) : Int) = (-(((k : Nat) : Int)) : Int)
            ·
              refine pl_take (.bool true) rfl (by kernel_rfl) (by kernel_rfl) (by kernel_rfl) (ev_eq (show _ = Result.ok (Next.value (Value.bool ((-(((k : Nat) : Int)) : Int) == (-(((k : Nat) : Int)) : Int)))) _ from by kernel_rfl) (hc97)) ?_
              refine pl_take (.bool true) rfl (by kernel_rfl) (by kernel_rfl) (by kernel_rfl) (by kernel_rfl) ?_
              refine pl_nil ?_
              refine qw_then ?_
              refine cw_clean [2, 3, 5, 6, 9, 10, 14, 15, 16, 59, 60, 66, 67, 85] (ws' := [(2, .int .i64 (mi : Int)), (3, .int .i64 (((W : Nat) : Int) : Int)), (5, .pointer (some ⟨O1, 0, none⟩)), (6, .pointer (some ⟨O5, 0, none⟩)), (9, .pointer (some ⟨O9, 0, none⟩)), (10, .pointer (some ⟨O13, 0, none⟩)), (14, .int .i64 (sp.1 + ((j : Nat) : Int) : Int)), (15, .pointer (some ⟨O32, 0, none⟩)), (16, .int .i64 (((k : Nat) : Int) : Int)), (59, .int .i64 (((W + 1 : Nat) : Int) : Int)), (60, .int .i64 (((k : Nat) : Int) : Int)), (66, .agg #[.int .i64 (((k : Nat) : Int) : Int), .int .i64 (-(((k : Nat) : Int)) : Int)]), (67, .int .i64 1), (85, .bool true)]) (by kernel_rfl) (fun L => ?_)
              refine cw_t (by kernel_rfl) ?_
              refine cw_exit ?_
              refine qw_block_on (by decide) ?_
              refine qw_then_exit ?_
              refine qw_then_exit ?_
              refine qw_block_on (by decide) ?_
              refine qw_block_on (by decide) ?_
              refine qw_then_exit ?_
              refine qw_then_exit ?_
              refine qw_block_on (by decide) ?_
              refine qw_block_out ?_
              refine qw_then ?_
              refine cw_plain ?_
              refine pl_take (.int .i64 (sp.1 + ((j : Nat) : Int) : Int)) rfl (by kernel_rfl) (by kernel_rfl) (by kernel_rfl) (by kernel_rfl) ?_
              refine pl_take (.int .i64 (sp.1 + ((j + 1 : Nat) : Int) : Int)) rfl (by kernel_rfl) (by kernel_rfl) (by kernel_rfl) (ev_int (ev_wrap (a := sp.1 + ((j : Nat) : Int) + 1) (by kernel_rfl) (by omega) (by omega)) (by omega)) ?_
              refine pl_take (.int .i64 (sp.1 + ((j + 1 : Nat) : Int) : Int)) rfl (by kernel_rfl) (by kernel_rfl) (by kernel_rfl) (by kernel_rfl) ?_
              refine pl_nil ?_
              refine qw_round [2, 3, 5, 6, 9, 10, 14] (ws' := [(2, .int .i64 (mi : Int)), (3, .int .i64 (((W : Nat) : Int) : Int)), (5, .pointer (some ⟨O1, 0, none⟩)), (6, .pointer (some ⟨O5, 0, none⟩)), (9, .pointer (some ⟨O9, 0, none⟩)), (10, .pointer (some ⟨O13, 0, none⟩)), (14, .int .i64 (sp.1 + ((j + 1 : Nat) : Int) : Int))]) (by kernel_rfl) _ ?_ ⟨(j + 1), rfl, rfl, (Nat.le_trans hs29 (Nat.le_trans hs34 (Nat.le_trans hs37 (Nat.le_trans hs39 (Nat.le_trans hs43 hs95))))), hE, (hY92.trans hX42), (Swath.NoHit.le hit9 (by rw [Nat.succ_mul]; omega)), by omega⟩
              omega
            ·
              refine pl_take (.bool false) rfl (by kernel_rfl) (by kernel_rfl) (by kernel_rfl) (ev_neq (show _ = Result.ok (Next.value (Value.bool ((-(((k : Nat) : Int)) : Int) == (-(((k : Nat) : Int)) : Int)))) _ from by kernel_rfl) (hc97)) ?_
              refine pl_take (.bool false) rfl (by kernel_rfl) (by kernel_rfl) (by kernel_rfl) (by kernel_rfl) ?_
              refine pl_nil ?_
              refine qw_then ?_
              refine cw_clean [2, 3, 5, 6, 9, 10, 14, 15, 16, 59, 60, 66, 67, 85] (ws' := [(2, .int .i64 (mi : Int)), (3, .int .i64 (((W : Nat) : Int) : Int)), (5, .pointer (some ⟨O1, 0, none⟩)), (6, .pointer (some ⟨O5, 0, none⟩)), (9, .pointer (some ⟨O9, 0, none⟩)), (10, .pointer (some ⟨O13, 0, none⟩)), (14, .int .i64 (sp.1 + ((j : Nat) : Int) : Int)), (15, .pointer (some ⟨O32, 0, none⟩)), (16, .int .i64 (((k : Nat) : Int) : Int)), (59, .int .i64 (((W + 1 : Nat) : Int) : Int)), (60, .int .i64 (((k : Nat) : Int) : Int)), (66, .agg #[.int .i64 (((k : Nat) : Int) : Int), .int .i64 (-(((k : Nat) : Int)) : Int)]), (67, .int .i64 1), (85, .bool false)]) (by kernel_rfl) (fun L => ?_)
              refine cw_f (by kernel_rfl) ?_
              refine cw_skip ?_
              refine qw_block ?_
              refine qw_then ?_
              refine cw_plain ?_
              refine pl_take (.int .i64 2) rfl (by kernel_rfl) (by kernel_rfl) (by kernel_rfl) (by kernel_rfl) ?_
              refine pl_take (.int .i64 2) rfl (by kernel_rfl) (by kernel_rfl) (by kernel_rfl) (by kernel_rfl) ?_
              refine pl_nil ?_
              refine qw_round [2, 3, 5, 6, 9, 10, 14, 15, 16, 59, 60, 66, 67] (ws' := [(2, .int .i64 (mi : Int)), (3, .int .i64 (((W : Nat) : Int) : Int)), (5, .pointer (some ⟨O1, 0, none⟩)), (6, .pointer (some ⟨O5, 0, none⟩)), (9, .pointer (some ⟨O9, 0, none⟩)), (10, .pointer (some ⟨O13, 0, none⟩)), (14, .int .i64 (sp.1 + ((j : Nat) : Int) : Int)), (15, .pointer (some ⟨O32, 0, none⟩)), (16, .int .i64 (((k : Nat) : Int) : Int)), (59, .int .i64 (((W + 1 : Nat) : Int) : Int)), (60, .int .i64 (((k : Nat) : Int) : Int)), (66, .agg #[.int .i64 (((k : Nat) : Int) : Int), .int .i64 (-(((k : Nat) : Int)) : Int)]), (67, .int .i64 2)]) (by kernel_rfl) _ ?_ ⟨2, rfl, rfl, (Nat.le_trans hs43 hs95), hE, hX42, (Swath.NoHit.le (hit9) (by omega)), by omega⟩
              omega
          ·
            refine pl_take (.bool false) rfl (by kernel_rfl) (by kernel_rfl) (by kernel_rfl) (ev_neq (show _ = Result.ok (Next.value (Value.bool ((((k : Nat) : Int) : Int) == (((W : Nat) : Int) : Int)))) _ from by kernel_rfl) (hc96)) ?_
            refine pl_take (.bool false) rfl (by kernel_rfl) (by kernel_rfl) (by kernel_rfl) (by kernel_rfl) ?_
            refine pl_skip rfl (by kernel_rfl) (by kernel_rfl) (by kernel_rfl) ?_
            refine pl_skip rfl (by kernel_rfl) (by kernel_rfl) (by kernel_rfl) ?_
            refine pl_skip rfl (by kernel_rfl) (by kernel_rfl) (by kernel_rfl) ?_
            refine pl_skip rfl (by kernel_rfl) (by kernel_rfl) (by kernel_rfl) ?_
            refine pl_take (.bool false) rfl (by kernel_rfl) (by kernel_rfl) (by kernel_rfl) (by kernel_rfl) ?_
            refine pl_nil ?_
            refine qw_then ?_
            refine cw_clean [2, 3, 5, 6, 9, 10, 14, 15, 16, 59, 60, 66, 67, 85] (ws' := [(2, .int .i64 (mi : Int)), (3, .int .i64 (((W : Nat) : Int) : Int)), (5, .pointer (some ⟨O1, 0, none⟩)), (6, .pointer (some ⟨O5, 0, none⟩)), (9, .pointer (some ⟨O9, 0, none⟩)), (10, .pointer (some ⟨O13, 0, none⟩)), (14, .int .i64 (sp.1 + ((j : Nat) : Int) : Int)), (15, .pointer (some ⟨O32, 0, none⟩)), (16, .int .i64 (((k : Nat) : Int) : Int)), (59, .int .i64 (((W + 1 : Nat) : Int) : Int)), (60, .int .i64 (((k : Nat) : Int) : Int)), (66, .agg #[.int .i64 (((k : Nat) : Int) : Int), .int .i64 (-(((k : Nat) : Int)) : Int)]), (67, .int .i64 1), (85, .bool false)]) (by kernel_rfl) (fun L => ?_)
            refine cw_f (by kernel_rfl) ?_
            refine cw_skip ?_
            refine qw_block ?_
            refine qw_then ?_
            refine cw_plain ?_
            refine pl_take (.int .i64 2) rfl (by kernel_rfl) (by kernel_rfl) (by kernel_rfl) (by kernel_rfl) ?_
            refine pl_take (.int .i64 2) rfl (by kernel_rfl) (by kernel_rfl) (by kernel_rfl) (by kernel_rfl) ?_
            refine pl_nil ?_
            refine qw_round [2, 3, 5, 6, 9, 10, 14, 15, 16, 59, 60, 66, 67] (ws' := [(2, .int .i64 (mi : Int)), (3, .int .i64 (((W : Nat) : Int) : Int)), (5, .pointer (some ⟨O1, 0, none⟩)), (6, .pointer (some ⟨O5, 0, none⟩)), (9, .pointer (some ⟨O9, 0, none⟩)), (10, .pointer (some ⟨O13, 0, none⟩)), (14, .int .i64 (sp.1 + ((j : Nat) : Int) : Int)), (15, .pointer (some ⟨O32, 0, none⟩)), (16, .int .i64 (((k : Nat) : Int) : Int)), (59, .int .i64 (((W + 1 : Nat) : Int) : Int)), (60, .int .i64 (((k : Nat) : Int) : Int)), (66, .agg #[.int .i64 (((k : Nat) : Int) : Int), .int .i64 (-(((k : Nat) : Int)) : Int)]), (67, .int .i64 2)]) (by kernel_rfl) _ ?_ ⟨2, rfl, rfl, (Nat.le_trans hs43 hs95), hE, hX42, (Swath.NoHit.le (hit9) (by omega)), by omega⟩
            omega
      ·
        refine cw_seq ?_
        refine cw_plain ?_
        refine pl_take (.bool false) rfl (by kernel_rfl) (by kernel_rfl) (by kernel_rfl) (by kernel_rfl) ?_
        refine pl_nil ?_
        refine qw_then ?_
        refine cw_seq ?_
        refine cw_f (by kernel_rfl) ?_
        refine cw_exit ?_
        refine qw_then_exit ?_
        refine qw_then_exit ?_
        refine qw_block_out ?_
        refine qw_block ?_
        refine qw_then ?_
        refine cw_plain ?_
        refine pl_take (.int .i64 (((k + 1 : Nat) : Int) : Int)) rfl (by kernel_rfl) (by kernel_rfl) (by kernel_rfl) (ev_wrap (by kernel_rfl) (by omega) (by omega)) ?_
        refine pl_take (.int .i64 (((k + 1 : Nat) : Int) : Int)) rfl (by kernel_rfl) (by kernel_rfl) (by kernel_rfl) (by kernel_rfl) ?_
        refine pl_nil ?_
        refine qw_round [2, 3, 5, 6, 9, 10, 14, 15, 59, 60] (ws' := [(2, .int .i64 (mi : Int)), (3, .int .i64 (((W : Nat) : Int) : Int)), (5, .pointer (some ⟨O1, 0, none⟩)), (6, .pointer (some ⟨O5, 0, none⟩)), (9, .pointer (some ⟨O9, 0, none⟩)), (10, .pointer (some ⟨O13, 0, none⟩)), (14, .int .i64 (sp.1 + ((j : Nat) : Int) : Int)), (15, .pointer (some ⟨O32, 0, none⟩)), (59, .int .i64 (((W + 1 : Nat) : Int) : Int)), (60, .int .i64 (((k + 1 : Nat) : Int) : Int))]) (by kernel_rfl) _ ?_ ⟨(k + 1), rfl, rfl, (Nat.le_trans hs39 hs43), hE, (hX38.trans hX42), (Swath.NoHit.le hitQ (by omega)), by omega⟩
        omega
    ·
      have hkw : k = W + 1 := by omega
      refine cw_seq ?_
      refine cw_plain ?_
      refine pl_take (.bool false) rfl (by kernel_rfl) (by kernel_rfl) (by kernel_rfl) (ev_ndec (show _ = Result.ok (Next.value (Value.bool (decide ((((k : Nat) : Int) : Int) < (((W + 1 : Nat) : Int) : Int))))) _ from by kernel_rfl) (by omega)) ?_
      refine pl_nil ?_
      refine qw_then ?_
      refine cw_seq ?_
      refine cw_f (by kernel_rfl) ?_
      refine cw_exit ?_
      refine qw_then_exit ?_
      refine qw_then_exit ?_
      refine qw_block_out ?_
      refine qw_block ?_
      refine qw_then ?_
      refine cw_plain ?_
      refine pl_take (.int .i64 (sp.1 + ((j : Nat) : Int) : Int)) rfl (by kernel_rfl) (by kernel_rfl) (by kernel_rfl) (by kernel_rfl) ?_
      refine pl_take (.int .i64 (sp.1 + ((j + 1 : Nat) : Int) : Int)) rfl (by kernel_rfl) (by kernel_rfl) (by kernel_rfl) (ev_int (ev_wrap (a := sp.1 + ((j : Nat) : Int) + 1) (by kernel_rfl) (by omega) (by omega)) (by omega)) ?_
      refine pl_take (.int .i64 (sp.1 + ((j + 1 : Nat) : Int) : Int)) rfl (by kernel_rfl) (by kernel_rfl) (by kernel_rfl) (by kernel_rfl) ?_
      refine pl_nil ?_
      refine qw_round [2, 3, 5, 6, 9, 10, 14] (ws' := [(2, .int .i64 (mi : Int)), (3, .int .i64 (((W : Nat) : Int) : Int)), (5, .pointer (some ⟨O1, 0, none⟩)), (6, .pointer (some ⟨O5, 0, none⟩)), (9, .pointer (some ⟨O9, 0, none⟩)), (10, .pointer (some ⟨O13, 0, none⟩)), (14, .int .i64 (sp.1 + ((j + 1 : Nat) : Int) : Int))]) (by kernel_rfl) _ ?_ ⟨(j + 1), rfl, rfl, (Nat.le_trans hs29 (Nat.le_trans hs34 (Nat.le_trans hs37 hs39))), hE, (hX28.trans hX38), (Swath.NoHit.le hitK (by rw [Nat.succ_mul]; omega)), by omega⟩
      omega
  ·
    have hjn : j = Swath.starts sp mi := by omega
    refine cw_seq ?_
    refine cw_seq ?_
    refine cw_plain ?_
    refine pl_take (.int .i64 (sp.1 + ((j : Nat) : Int) : Int)) rfl (by kernel_rfl) (by kernel_rfl) (by kernel_rfl) (by kernel_rfl) ?_
    refine pl_take (.int .i64 (mi : Int)) rfl (by kernel_rfl) (by kernel_rfl) (by kernel_rfl) (by kernel_rfl) ?_
    refine pl_take (.int .i64 ((sp.1 + ((j : Nat) : Int)) + mi : Int)) rfl (by kernel_rfl) (by kernel_rfl) (by kernel_rfl) (ev_wrap (by kernel_rfl) (by omega) (by omega)) ?_
    refine pl_take (.pointer (some ⟨O5, 1, none⟩)) rfl (by kernel_rfl) (by kernel_rfl) (by kernel_rfl) (by kernel_rfl) ?_
    refine pl_take (.int .i64 (sp.2 : Int)) rfl (by kernel_rfl) (by kernel_rfl) (by kernel_rfl) (ex_load rfl (by kernel_rfl) (ld3 ((BoxAt.ext (hX17.trans hX28) bO5_1).1))) ?_
    refine pl_take (.bool false) rfl (by kernel_rfl) (by kernel_rfl) (by kernel_rfl) (ev_ndec (show _ = Result.ok (Next.value (Value.bool (decide (((sp.1 + ((j : Nat) : Int)) + mi : Int) ≤ (sp.2 : Int))))) _ from by kernel_rfl) (by omega)) ?_
    refine pl_nil ?_
    refine qw_then ?_
    refine cw_f (by kernel_rfl) ?_
    refine cw_exit ?_
    refine qw_then_exit ?_
    refine qw_then_exit ?_
    refine qw_block_out ?_
    refine qw_then ?_
    refine cw_seq ?_
    refine cw_plain ?_
    refine pl_take (.agg #[.int .i64 0, .int .i64 0]) rfl (by kernel_rfl) (by kernel_rfl) (by kernel_rfl) (by kernel_rfl) ?_
    have bO1_t99 := (BoxAt.ext (hX17.trans hX28) bO1_0)
    have bO1_t100 := (BoxAt.ext (hX17.trans hX28) bO1_1)
    have bO1_t101 := (BoxAt.ext (hX17.trans hX28) bO1_2)
    have bO1_t102 := (BoxAt.ext (hX17.trans hX28) bO1_3)
    have bO1_t103 := (BoxAt.ext (hX17.trans hX28) bO1_4)
    have bO1_t104 := (BoxAt.ext (hX17.trans hX28) bO1_5)
    have bO1_t105 := (BoxAt.ext (hX17.trans hX28) bO1_6)
    have bO5_t106 := (BoxAt.ext (hX17.trans hX28) bO5_0)
    have bO5_t107 := (BoxAt.ext (hX17.trans hX28) bO5_1)
    have bO9_t108 := (BoxAt.ext (hX17.trans hX28) bO9_0)
    have bO13_t109 := (BoxAt.ext (hX17.trans hX28) bO13_0)
    have bO13_t110 := (BoxAt.ext (hX17.trans hX28) bO13_1)
    refine pl_put rfl (by kernel_rfl) (by kernel_rfl) (sn_set2 (O := O13) (j := 0) (v := .int .i64 0) (v' := .int .i64 0) (ex_store (p := .pointer (some ⟨O13, 0, none⟩)) (v := .agg #[.int .i64 0, .int .i64 0]) rfl (by kernel_rfl) (by kernel_rfl) (st29 bO13_t109.1 bO13_t109.2 bO13_t110.1 bO13_t110.2)) bO13_t109 bO13_t110 ?_)
    intro X98 ho hv0 hv1 hk
    replace hE := ho.ext hE (Nat.le_trans (Nat.le_trans hs3 (Nat.le_trans hs7 hs11)) (Nat.le_of_eq hzO13))
    replace bO1_t99 := ho.box (Nat.ne_of_gt (Nat.lt_of_lt_of_le lt4 (Nat.le_trans (Nat.le_trans hs7 hs11) (Nat.le_of_eq hzO13)))) bO1_t99
    replace bO1_t100 := ho.box (Nat.ne_of_gt (Nat.lt_of_lt_of_le lt4 (Nat.le_trans (Nat.le_trans hs7 hs11) (Nat.le_of_eq hzO13)))) bO1_t100
    replace bO1_t101 := ho.box (Nat.ne_of_gt (Nat.lt_of_lt_of_le lt4 (Nat.le_trans (Nat.le_trans hs7 hs11) (Nat.le_of_eq hzO13)))) bO1_t101
    replace bO1_t102 := ho.box (Nat.ne_of_gt (Nat.lt_of_lt_of_le lt4 (Nat.le_trans (Nat.le_trans hs7 hs11) (Nat.le_of_eq hzO13)))) bO1_t102
    replace bO1_t103 := ho.box (Nat.ne_of_gt (Nat.lt_of_lt_of_le lt4 (Nat.le_trans (Nat.le_trans hs7 hs11) (Nat.le_of_eq hzO13)))) bO1_t103
    replace bO1_t104 := ho.box (Nat.ne_of_gt (Nat.lt_of_lt_of_le lt4 (Nat.le_trans (Nat.le_trans hs7 hs11) (Nat.le_of_eq hzO13)))) bO1_t104
    replace bO1_t105 := ho.box (Nat.ne_of_gt (Nat.lt_of_lt_of_le lt4 (Nat.le_trans (Nat.le_trans hs7 hs11) (Nat.le_of_eq hzO13)))) bO1_t105
    replace bO5_t106 := ho.box (Nat.ne_of_gt (Nat.lt_of_lt_of_le lt8 (Nat.le_trans hs11 (Nat.le_of_eq hzO13)))) bO5_t106
    replace bO5_t107 := ho.box (Nat.ne_of_gt (Nat.lt_of_lt_of_le lt8 (Nat.le_trans hs11 (Nat.le_of_eq hzO13)))) bO5_t107
    replace bO9_t108 := ho.box (Nat.ne_of_gt (Nat.lt_of_lt_of_le lt12 (Nat.le_of_eq hzO13))) bO9_t108
    have hs111 : w30.heap.size ≤ X98.heap.size := Nat.le_of_eq ho.size.symm
    clear ho hk bO13_t109 bO13_t110
    have bO13_t109 := hv0; clear hv0
    have bO13_t110 := hv1; clear hv1
    refine pl_take (.int .i64 0) rfl (by kernel_rfl) (by kernel_rfl) (by kernel_rfl) (by kernel_rfl) ?_
    refine pl_take (.bool false) rfl (by kernel_rfl) (by kernel_rfl) (by kernel_rfl) (by kernel_rfl) ?_
    refine pl_take (.int .i64 0) rfl (by kernel_rfl) (by kernel_rfl) (by kernel_rfl) (by kernel_rfl) ?_
    refine pl_nil ?_
    refine qw_then ?_
    refine cw_clean [10, 11, 12, 13] (ws' := [(10, .pointer (some ⟨O13, 0, none⟩)), (11, .int .i64 0), (12, .bool false), (13, .int .i64 0)]) (by kernel_rfl) (fun L => ?_)
    refine cw_ret ?_
    refine qw_scope_ret ?_
    refine qw_ret [.agg #[.int .i64 0, .int .i64 0], .int .i64 0, .bool false, .int .i64 0] rfl ⟨⟨_, by kernel_rfl, res_ld (ld29 (bO13_t109.1) (bO13_t110.1))⟩, (by kernel_rfl), (by kernel_rfl), (by kernel_rfl), trivial⟩ ?_
    have hbest := Swath.best_no (o := o) (sp := sp) (mi := mi) (wd := W) (l := l) (hjn ▸ hitJ)
    exact ⟨by rw [hbest]; rfl, hE⟩
end Go.Proofs.YtdjjkhefdalokaaDoor
