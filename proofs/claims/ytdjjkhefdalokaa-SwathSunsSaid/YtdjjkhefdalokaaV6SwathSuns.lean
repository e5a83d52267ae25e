/- Part 6 of what the proof of SwathSuns stands on. -/
import Derived.Test.YtdjjkhefdalokaaV5SwathSuns
/- Contracts of package swath: Best. -/
namespace Go.Proofs.Ytdjjkhefdalokaa
open Go.RowKit

theorem Valid_e9 {v r : Bool} {w0 : World} {a : Option Addr} {l : List Int} {n : Nat} (c : Nat) (w : World) (h : AA w0 a l n v) (hE : Ext w0 w) (hr : v = r) : Calls Try.prog 33 #[.agg #[.slice a n c]] w fun e w' => e = .returned (.bool r) ∧ Ext w w' := hr ▸ Valid_e c w h hE
theorem Shows_r {w1 : World} {o : Orb} {s : Int × Int} {lk : Int} {a : Option Addr} {l : List Int} {n : Nat} {v r : Bool} (c : Nat) (w : World) (hA : AA w1 a l n v) (e1 : Ext w1 w) (hr : Swath.showsB o s lk l = r) : Calls Try.prog 24 #[.agg #[.int .i64 o.p, .int .i64 o.f, .int .i64 o.lo, .int .i64 o.hi, .int .i64 o.nd, .int .i64 o.tn, .int .i64 o.sl], .agg #[.int .i64 s.1, .int .i64 s.2], .int .i64 lk, .agg #[.slice a n c]] w fun e w' => e = .returned (.bool r) ∧ Ext w w' := hr ▸ Shows_c c w hA e1
set_option maxRecDepth 1000000 in
set_option maxHeartbeats 4000000 in
theorem Best_y {w1 : World} {o : Orb} {sp : Int × Int} {mi : Int} {W : Nat} {a : Option Addr} {l : List Int} {n : Nat} (c : Nat) (w : World) (hA : AA w1 a l n true) (e1 : Ext w1 w) (g1 : Orb.ok o = true) (g2 : Swath.spB sp 300 = true) (g3 : Globe.inB mi 1 60 = true) (g4 : Globe.inB ((W : Nat) : Int) 0 4 = true) :
    Calls Try.prog 26 #[.agg #[.int .i64 o.p, .int .i64 o.f, .int .i64 o.lo, .int .i64 o.hi, .int .i64 o.nd, .int .i64 o.tn, .int .i64 o.sl], .agg #[.int .i64 sp.1, .int .i64 sp.2], .int .i64 mi, .int .i64 ((W : Nat) : Int), .agg #[.slice a n c]] w fun e w' => e = .returned (.tuple #[.agg #[.int .i64 (Swath.best o sp mi W l).1.1, .int .i64 (Swath.best o sp mi W l).1.2], .int .i64 (Swath.best o sp mi W l).2.1, .bool (Swath.best o sp mi W l).2.2, .int .i64 0]) ∧ Ext w w' := by
  have q2 := Swath.spB_t.1 g2
  have q3 := Globe.inB_t.1 g3
  have q4 := Globe.inB_t.1 g4
  obtain ⟨MM, hMM⟩ : ∃ m, m = 2 * W + 2 := ⟨_, rfl⟩
  refine calls_cw 89 [(4, .agg #[.slice a n c]), (3, .int .i64 (((W : Nat) : Int) : Int)), (2, .int .i64 (mi : Int)), (1, .agg #[.int .i64 (sp.1 : Int), .int .i64 (sp.2 : Int)]), (0, .agg #[.int .i64 (o.p : Int), .int .i64 (o.f : Int), .int .i64 (o.lo : Int), .int .i64 (o.hi : Int), .int .i64 (o.nd : Int), .int .i64 (o.tn : Int), .int .i64 (o.sl : Int)])] Try.func26 rfl Try.ntmps26 (by kernel_rfl) (by kernel_rfl) (fun L => ?_)
  have hE : Ext w w := Ext.refl w
  refine cw_seq ?_
  refine cw_plain ?_
  refine pl_step rfl (by kernel_rfl) (by kernel_rfl) (by kernel_rfl) (sn_new (us := #[.int .i64 (o.p : Int), .int .i64 (o.f : Int), .int .i64 (o.lo : Int), .int .i64 (o.hi : Int), .int .i64 (o.nd : Int), .int .i64 (o.tn : Int), .int .i64 (o.sl : Int)]) (t := 24) (by kernel_rfl) ?_)
  intro O1 X2 hO hOs hb hbx
  have hzO1 := hO; have hyO1 := hOs; clear hO hOs
  have bO1_0 : BoxAt X2 O1 0 (.int .i64 (o.p : Int)) := hbx 0 _ rfl
  have bO1_1 : BoxAt X2 O1 1 (.int .i64 (o.f : Int)) := hbx 1 _ rfl
  have bO1_2 : BoxAt X2 O1 2 (.int .i64 (o.lo : Int)) := hbx 2 _ rfl
  have bO1_3 : BoxAt X2 O1 3 (.int .i64 (o.hi : Int)) := hbx 3 _ rfl
  have bO1_4 : BoxAt X2 O1 4 (.int .i64 (o.nd : Int)) := hbx 4 _ rfl
  have bO1_5 : BoxAt X2 O1 5 (.int .i64 (o.tn : Int)) := hbx 5 _ rfl
  have bO1_6 : BoxAt X2 O1 6 (.int .i64 (o.sl : Int)) := hbx 6 _ rfl
  clear hbx
  replace hE := hE.trans hb
  have hs3 := hb.size
  clear hb
  have lt4 := bO1_0.lt
  refine pl_step rfl (by kernel_rfl) (by kernel_rfl) (by kernel_rfl) (sn_new (us := #[.int .i64 (sp.1 : Int), .int .i64 (sp.2 : Int)]) (t := 26) (by kernel_rfl) ?_)
  intro O5 X6 hO hOs hb hbx
  have hzO5 := hO; have hyO5 := hOs; clear hO hOs
  have bO5_0 : BoxAt X6 O5 0 (.int .i64 (sp.1 : Int)) := hbx 0 _ rfl
  have bO5_1 : BoxAt X6 O5 1 (.int .i64 (sp.2 : Int)) := hbx 1 _ rfl
  clear hbx
  replace hE := hE.trans hb
  replace bO1_0 := BoxAt.ext hb bO1_0
  replace bO1_1 := BoxAt.ext hb bO1_1
  replace bO1_2 := BoxAt.ext hb bO1_2
  replace bO1_3 := BoxAt.ext hb bO1_3
  replace bO1_4 := BoxAt.ext hb bO1_4
  replace bO1_5 := BoxAt.ext hb bO1_5
  replace bO1_6 := BoxAt.ext hb bO1_6
  have hs7 := hb.size
  clear hb
  have lt8 := bO5_0.lt
  refine pl_step rfl (by kernel_rfl) (by kernel_rfl) (by kernel_rfl) (sn_new (us := #[.slice a n c]) (t := 31) (by kernel_rfl) ?_)
  intro O9 X10 hO hOs hb hbx
  have hzO9 := hO; have hyO9 := hOs; clear hO hOs
  have bO9_0 : BoxAt X10 O9 0 (.slice a n c) := hbx 0 _ rfl
  clear hbx
  replace hE := hE.trans hb
  replace bO1_0 := BoxAt.ext hb bO1_0
  replace bO1_1 := BoxAt.ext hb bO1_1
  replace bO1_2 := BoxAt.ext hb bO1_2
  replace bO1_3 := BoxAt.ext hb bO1_3
  replace bO1_4 := BoxAt.ext hb bO1_4
  replace bO1_5 := BoxAt.ext hb bO1_5
  replace bO1_6 := BoxAt.ext hb bO1_6
  replace bO5_0 := BoxAt.ext hb bO5_0
  replace bO5_1 := BoxAt.ext hb bO5_1
  have hs11 := hb.size
  clear hb
  have lt12 := bO9_0.lt
  refine pl_step rfl (by kernel_rfl) (by kernel_rfl) (by kernel_rfl) (sn_new (us := #[.int .i64 0, .int .i64 0]) (t := 26) (by kernel_rfl) ?_)
  intro O13 X14 hO hOs hb hbx
  have hzO13 := hO; have hyO13 := hOs; clear hO hOs
  have bO13_0 : BoxAt X14 O13 0 (.int .i64 0) := hbx 0 _ rfl
  have bO13_1 : BoxAt X14 O13 1 (.int .i64 0) := hbx 1 _ rfl
  clear hbx
  replace hE := hE.trans hb
  replace bO1_0 := BoxAt.ext hb bO1_0
  replace bO1_1 := BoxAt.ext hb bO1_1
  replace bO1_2 := BoxAt.ext hb bO1_2
  replace bO1_3 := BoxAt.ext hb bO1_3
  replace bO1_4 := BoxAt.ext hb bO1_4
  replace bO1_5 := BoxAt.ext hb bO1_5
  replace bO1_6 := BoxAt.ext hb bO1_6
  replace bO5_0 := BoxAt.ext hb bO5_0
  replace bO5_1 := BoxAt.ext hb bO5_1
  replace bO9_0 := BoxAt.ext hb bO9_0
  have hs15 := hb.size
  clear hb
  have lt16 := bO13_0.lt
  refine pl_take (.int .i64 0) rfl (by kernel_rfl) (by kernel_rfl) (by kernel_rfl) (by kernel_rfl) ?_
  refine pl_take (.bool false) rfl (by kernel_rfl) (by kernel_rfl) (by kernel_rfl) (by kernel_rfl) ?_
  refine pl_take (.int .i64 0) rfl (by kernel_rfl) (by kernel_rfl) (by kernel_rfl) (by kernel_rfl) ?_
  refine pl_nil ?_
  refine qw_then ?_
  refine cw_scope ?_
  refine cw_seq ?_
  refine cw_seq ?_
  refine cw_plain ?_
  refine pl_take (.agg #[.int .i64 (o.p : Int), .int .i64 (o.f : Int), .int .i64 (o.lo : Int), .int .i64 (o.hi : Int), .int .i64 (o.nd : Int), .int .i64 (o.tn : Int), .int .i64 (o.sl : Int)]) rfl (by kernel_rfl) (by kernel_rfl) (by kernel_rfl) (ex_load rfl (by kernel_rfl) (ld24 (bO1_0.1) (bO1_1.1) (bO1_2.1) (bO1_3.1) (bO1_4.1) (bO1_5.1) (bO1_6.1))) ?_
  refine pl_step rfl (by kernel_rfl) (by kernel_rfl) (by kernel_rfl) (sn_call (f := 56) (args := #[.agg #[.int .i64 (o.p : Int), .int .i64 (o.f : Int), .int .i64 (o.lo : Int), .int .i64 (o.hi : Int), .int .i64 (o.nd : Int), .int .i64 (o.tn : Int), .int .i64 (o.sl : Int)]]) (by kernel_rfl) ((oValid_r (r := true) _ (g1)).mono ?_))
  rintro e w17 ⟨rfl, hb⟩
  replace hE := hE.trans hb
  replace bO1_0 := BoxAt.ext hb bO1_0
  replace bO1_1 := BoxAt.ext hb bO1_1
  replace bO1_2 := BoxAt.ext hb bO1_2
  replace bO1_3 := BoxAt.ext hb bO1_3
  replace bO1_4 := BoxAt.ext hb bO1_4
  replace bO1_5 := BoxAt.ext hb bO1_5
  replace bO1_6 := BoxAt.ext hb bO1_6
  replace bO5_0 := BoxAt.ext hb bO5_0
  replace bO5_1 := BoxAt.ext hb bO5_1
  replace bO9_0 := BoxAt.ext hb bO9_0
  replace bO13_0 := BoxAt.ext hb bO13_0
  replace bO13_1 := BoxAt.ext hb bO13_1
  have hs18 := hb.size
  clear hb
  refine ⟨_, rfl, ?_⟩
  refine pl_take (.bool false) rfl (by kernel_rfl) (by kernel_rfl) (by kernel_rfl) (by kernel_rfl) ?_
  refine pl_take (.bool false) rfl (by kernel_rfl) (by kernel_rfl) (by kernel_rfl) (by kernel_rfl) ?_
  refine pl_take (.agg #[.int .i64 (sp.1 : Int), .int .i64 (sp.2 : Int)]) rfl (by kernel_rfl) (by kernel_rfl) (by kernel_rfl) (ex_load rfl (by kernel_rfl) (ld26 (bO5_0.1) (bO5_1.1))) ?_
  refine pl_step rfl (by kernel_rfl) (by kernel_rfl) (by kernel_rfl) (sn_call (f := 57) (args := #[.agg #[.int .i64 (sp.1 : Int), .int .i64 (sp.2 : Int)], .int .i64 300]) (by kernel_rfl) ((isSpell_r (r := true) sp 300 _ (g2)).mono ?_))
  rintro e w19 ⟨rfl, hb⟩
  replace hE := hE.trans hb
  replace bO1_0 := BoxAt.ext hb bO1_0
  replace bO1_1 := BoxAt.ext hb bO1_1
  replace bO1_2 := BoxAt.ext hb bO1_2
  replace bO1_3 := BoxAt.ext hb bO1_3
  replace bO1_4 := BoxAt.ext hb bO1_4
  replace bO1_5 := BoxAt.ext hb bO1_5
  replace bO1_6 := BoxAt.ext hb bO1_6
  replace bO5_0 := BoxAt.ext hb bO5_0
  replace bO5_1 := BoxAt.ext hb bO5_1
  replace bO9_0 := BoxAt.ext hb bO9_0
  replace bO13_0 := BoxAt.ext hb bO13_0
  replace bO13_1 := BoxAt.ext hb bO13_1
  have hs20 := hb.size
  clear hb
  refine ⟨_, rfl, ?_⟩
  refine pl_take (.bool false) rfl (by kernel_rfl) (by kernel_rfl) (by kernel_rfl) (by kernel_rfl) ?_
  refine pl_take (.bool false) rfl (by kernel_rfl) (by kernel_rfl) (by kernel_rfl) (by kernel_rfl) ?_
  refine pl_take (.bool false) rfl (by kernel_rfl) (by kernel_rfl) (by kernel_rfl) (by kernel_rfl) ?_
  refine pl_take (.int .i64 (mi : Int)) rfl (by kernel_rfl) (by kernel_rfl) (by kernel_rfl) (by kernel_rfl) ?_
  refine pl_step rfl (by kernel_rfl) (by kernel_rfl) (by kernel_rfl) (sn_call (f := 43) (args := #[.int .i64 (mi : Int), .int .i64 1, .int .i64 60]) (by kernel_rfl) ((swath_isIn_r (r := true) mi 1 60 _ (g3)).mono ?_))
  rintro e w21 ⟨rfl, hb⟩
  replace hE := hE.trans hb
  replace bO1_0 := BoxAt.ext hb bO1_0
  replace bO1_1 := BoxAt.ext hb bO1_1
  replace bO1_2 := BoxAt.ext hb bO1_2
  replace bO1_3 := BoxAt.ext hb bO1_3
  replace bO1_4 := BoxAt.ext hb bO1_4
  replace bO1_5 := BoxAt.ext hb bO1_5
  replace bO1_6 := BoxAt.ext hb bO1_6
  replace bO5_0 := BoxAt.ext hb bO5_0
  replace bO5_1 := BoxAt.ext hb bO5_1
  replace bO9_0 := BoxAt.ext hb bO9_0
  replace bO13_0 := BoxAt.ext hb bO13_0
  replace bO13_1 := BoxAt.ext hb bO13_1
  have hs22 := hb.size
  clear hb
  refine ⟨_, rfl, ?_⟩
  refine pl_take (.bool false) rfl (by kernel_rfl) (by kernel_rfl) (by kernel_rfl) (by kernel_rfl) ?_
  refine pl_take (.bool false) rfl (by kernel_rfl) (by kernel_rfl) (by kernel_rfl) (by kernel_rfl) ?_
  refine pl_take (.bool false) rfl (by kernel_rfl) (by kernel_rfl) (by kernel_rfl) (by kernel_rfl) ?_
  refine pl_take (.int .i64 (((W : Nat) : Int) : Int)) rfl (by kernel_rfl) (by kernel_rfl) (by kernel_rfl) (by kernel_rfl) ?_
  refine pl_step rfl (by kernel_rfl) (by kernel_rfl) (by kernel_rfl) (sn_call (f := 43) (args := #[.int .i64 (((W : Nat) : Int) : Int), .int .i64 0, .int .i64 4]) (by kernel_rfl) ((swath_isIn_r (r := true) (((W : Nat) : Int)) 0 4 _ (g4)).mono ?_))
  rintro e w23 ⟨rfl, hb⟩
  replace hE := hE.trans hb
  replace bO1_0 := BoxAt.ext hb bO1_0
  replace bO1_1 := BoxAt.ext hb bO1_1
  replace bO1_2 := BoxAt.ext hb bO1_2
  replace bO1_3 := BoxAt.ext hb bO1_3
  replace bO1_4 := BoxAt.ext hb bO1_4
  replace bO1_5 := BoxAt.ext hb bO1_5
  replace bO1_6 := BoxAt.ext hb bO1_6
  replace bO5_0 := BoxAt.ext hb bO5_0
  replace bO5_1 := BoxAt.ext hb bO5_1
  replace bO9_0 := BoxAt.ext hb bO9_0
  replace bO13_0 := BoxAt.ext hb bO13_0
  replace bO13_1 := BoxAt.ext hb bO13_1
  have hs24 := hb.size
  clear hb
  refine ⟨_, rfl, ?_⟩
  refine pl_take (.bool false) rfl (by kernel_rfl) (by kernel_rfl) (by kernel_rfl) (by kernel_rfl) ?_
  refine pl_take (.bool false) rfl (by kernel_rfl) (by kernel_rfl) (by kernel_rfl) (by kernel_rfl) ?_
  refine pl_take (.bool false) rfl (by kernel_rfl) (by kernel_rfl) (by kernel_rfl) (by kernel_rfl) ?_
  refine pl_take (.agg #[.slice a n c]) rfl (by kernel_rfl) (by kernel_rfl) (by kernel_rfl) (ex_load rfl (by kernel_rfl) (ld31 (bO9_0.1))) ?_
  refine pl_step rfl (by kernel_rfl) (by kernel_rfl) (by kernel_rfl) (sn_call (f := 33) (args := #[.agg #[.slice a n c]]) (by kernel_rfl) ((Valid_e _ _ hA (e1.trans hE)).mono ?_))
  rintro e w25 ⟨rfl, hb⟩
  replace hE := hE.trans hb
  replace bO1_0 := BoxAt.ext hb bO1_0
  replace bO1_1 := BoxAt.ext hb bO1_1
  replace bO1_2 := BoxAt.ext hb bO1_2
  replace bO1_3 := BoxAt.ext hb bO1_3
  replace bO1_4 := BoxAt.ext hb bO1_4
  replace bO1_5 := BoxAt.ext hb bO1_5
  replace bO1_6 := BoxAt.ext hb bO1_6
  replace bO5_0 := BoxAt.ext hb bO5_0
  replace bO5_1 := BoxAt.ext hb bO5_1
  replace bO9_0 := BoxAt.ext hb bO9_0
  replace bO13_0 := BoxAt.ext hb bO13_0
  replace bO13_1 := BoxAt.ext hb bO13_1
  have hs26 := hb.size
  clear hb
  refine ⟨_, rfl, ?_⟩
  refine pl_take (.bool false) rfl (by kernel_rfl) (by kernel_rfl) (by kernel_rfl) (by kernel_rfl) ?_
  refine pl_take (.bool false) rfl (by kernel_rfl) (by kernel_rfl) (by kernel_rfl) (by kernel_rfl) ?_
  refine pl_nil ?_
  refine qw_then ?_
  refine cw_clean [2, 3, 5, 6, 9, 10, 41] (ws' := [(2, .int .i64 (mi : Int)), (3, .int .i64 (((W : Nat) : Int) : Int)), (5, .pointer (some ⟨O1, 0, none⟩)), (6, .pointer (some ⟨O5, 0, none⟩)), (9, .pointer (some ⟨O9, 0, none⟩)), (10, .pointer (some ⟨O13, 0, none⟩)), (41, .bool false)]) (by kernel_rfl) (fun L => ?_)
  refine cw_f (by kernel_rfl) ?_
  refine cw_skip ?_
  refine qw_then ?_
  refine cw_seq ?_
  refine cw_label ?_
  refine qw_then ?_
  refine cw_seq ?_
  refine cw_seq ?_
  refine cw_plain ?_
  refine pl_take (.pointer (some ⟨O5, 0, none⟩)) rfl (by kernel_rfl) (by kernel_rfl) (by kernel_rfl) (by kernel_rfl) ?_
  refine pl_take (.int .i64 (sp.1 : Int)) rfl (by kernel_rfl) (by kernel_rfl) (by kernel_rfl) (ex_load rfl (by kernel_rfl) (ld3 (bO5_0.1))) ?_
  refine pl_take (.int .i64 (sp.1 + ((0 : Nat) : Int) : Int)) rfl (by kernel_rfl) (by kernel_rfl) (by kernel_rfl) (ev_int (show _ = Result.ok (Next.value (Value.int .i64 sp.1)) _ from by kernel_rfl) (by omega)) ?_
  refine pl_nil ?_
  refine qw_then ?_
  refine cw_block ?_
  have hX27 : Ext w25 w25 := Ext.refl _
  refine cw_loop [2, 3, 5, 6, 9, 10, 14] (fun ws' wr m => ∃ j : Nat, ws' = [(2, .int .i64 (mi : Int)), (3, .int .i64 (((W : Nat) : Int) : Int)), (5, .pointer (some ⟨O1, 0, none⟩)), (6, .pointer (some ⟨O5, 0, none⟩)), (9, .pointer (some ⟨O9, 0, none⟩)), (10, .pointer (some ⟨O13, 0, none⟩)), (14, .int .i64 (sp.1 + ((j : Nat) : Int) : Int))] ∧ m = Swath.starts sp mi - j ∧ w25.heap.size ≤ wr.heap.size ∧ Ext w wr ∧ Ext w25 wr ∧ Swath.NoHit (Swath.bestP o sp mi W l) (j * (2 * W + 2)) ∧ j ≤ Swath.starts sp mi) (ws0 := [(2, .int .i64 (mi : Int)), (3, .int .i64 (((W : Nat) : Int) : Int)), (5, .pointer (some ⟨O1, 0, none⟩)), (6, .pointer (some ⟨O5, 0, none⟩)), (9, .pointer (some ⟨O9, 0, none⟩)), (10, .pointer (some ⟨O13, 0, none⟩)), (14, .int .i64 (sp.1 + ((0 : Nat) : Int) : Int))]) (by kernel_rfl) _ ⟨0, rfl, rfl, Nat.le_refl _, hE, hX27, (Swath.NoHit.le (Swath.noHit_0 _) (Nat.zero_mul _)), Nat.zero_le _⟩ ?_
  clear hE hX27
  rintro m30 L ws w29 ⟨j, rfl, rfl, hs28, hE, hX27, hitJ, hj⟩
  have hst : Swath.starts sp mi = (sp.2 - sp.1 - mi + 1).toNat := rfl
  have hkk := hitJ
  by_cases hlt : j < Swath.starts sp mi
  ·
    refine cw_seq ?_
    refine cw_seq ?_
    refine cw_plain ?_
    refine pl_take (.int .i64 (sp.1 + ((j : Nat) : Int) : Int)) rfl (by kernel_rfl) (by kernel_rfl) (by kernel_rfl) (by kernel_rfl) ?_
    refine pl_take (.int .i64 (mi : Int)) rfl (by kernel_rfl) (by kernel_rfl) (by kernel_rfl) (by kernel_rfl) ?_
    refine pl_take (.int .i64 ((sp.1 + ((j : Nat) : Int)) + mi : Int)) rfl (by kernel_rfl) (by kernel_rfl) (by kernel_rfl) (ev_wrap (by kernel_rfl) (by omega) (by omega)) ?_
    refine pl_take (.pointer (some ⟨O5, 1, none⟩)) rfl (by kernel_rfl) (by kernel_rfl) (by kernel_rfl) (by kernel_rfl) ?_
    refine pl_take (.int .i64 (sp.2 : Int)) rfl (by kernel_rfl) (by kernel_rfl) (by kernel_rfl) (ex_load rfl (by kernel_rfl) (ld3 ((BoxAt.ext hX27 bO5_1).1))) ?_
    refine pl_take (.bool true) rfl (by kernel_rfl) (by kernel_rfl) (by kernel_rfl) (ev_dec (show _ = Result.ok (Next.value (Value.bool (decide (((sp.1 + ((j : Nat) : Int)) + mi : Int) ≤ (sp.2 : Int))))) _ from by kernel_rfl) (by omega)) ?_
    refine pl_nil ?_
    refine qw_then ?_
    refine cw_t (by kernel_rfl) ?_
    refine cw_skip ?_
    refine qw_then ?_
    refine cw_seq ?_
    refine cw_block ?_
    refine cw_seq ?_
    refine cw_plain ?_
    refine pl_take (.int .i64 (sp.1 + ((j : Nat) : Int) : Int)) rfl (by kernel_rfl) (by kernel_rfl) (by kernel_rfl) (by kernel_rfl) ?_
    refine pl_take (.int .i64 (sp.1 + ((j : Nat) : Int) : Int)) rfl (by kernel_rfl) (by kernel_rfl) (by kernel_rfl) (by kernel_rfl) ?_
    refine pl_take (.int .i64 (mi : Int)) rfl (by kernel_rfl) (by kernel_rfl) (by kernel_rfl) (by kernel_rfl) ?_
    refine pl_take (.int .i64 ((sp.1 + ((j : Nat) : Int)) + mi : Int)) rfl (by kernel_rfl) (by kernel_rfl) (by kernel_rfl) (ev_wrap (by kernel_rfl) (by omega) (by omega)) ?_
    refine pl_take (.agg #[.int .i64 (sp.1 + ((j : Nat) : Int) : Int), .int .i64 ((sp.1 + ((j : Nat) : Int)) + mi : Int)]) rfl (by kernel_rfl) (by kernel_rfl) (by kernel_rfl) (by kernel_rfl) ?_
    refine pl_step rfl (by kernel_rfl) (by kernel_rfl) (by kernel_rfl) (sn_new (us := #[.int .i64 0, .int .i64 0]) (t := 26) (by kernel_rfl) ?_)
    intro O31 X32 hO hOs hb hbx
    have hzO31 := hO; have hyO31 := hOs; clear hO hOs
    have bO31_0 : BoxAt X32 O31 0 (.int .i64 0) := hbx 0 _ rfl
    have bO31_1 : BoxAt X32 O31 1 (.int .i64 0) := hbx 1 _ rfl
    clear hbx
    replace hE := hE.trans hb
    replace hX27 := hX27.trans hb
    have hs33 := hb.size
    clear hb
    have lt34 := bO31_0.lt
    refine pl_put rfl (by kernel_rfl) (by kernel_rfl) (sn_set2 (O := O31) (j := 0) (v := .int .i64 (sp.1 + ((j : Nat) : Int) : Int)) (v' := .int .i64 ((sp.1 + ((j : Nat) : Int)) + mi : Int)) (ex_store (p := .pointer (some ⟨O31, 0, none⟩)) (v := .agg #[.int .i64 (sp.1 + ((j : Nat) : Int) : Int), .int .i64 ((sp.1 + ((j : Nat) : Int)) + mi : Int)]) rfl (by kernel_rfl) (by kernel_rfl) (st26 bO31_0.1 bO31_0.2 bO31_1.1 bO31_1.2)) bO31_0 bO31_1 ?_)
    intro X35 ho hv0 hv1 hk
    replace hE := ho.ext hE (Nat.le_trans (Nat.le_trans hs3 (Nat.le_trans hs7 (Nat.le_trans hs11 (Nat.le_trans hs15 (Nat.le_trans hs18 (Nat.le_trans hs20 (Nat.le_trans hs22 (Nat.le_trans hs24 (Nat.le_trans hs26 hs28))))))))) (Nat.le_of_eq hzO31))
    replace hX27 := ho.ext hX27 (Nat.le_trans hs28 (Nat.le_of_eq hzO31))
    have hs36 : X32.heap.size ≤ X35.heap.size := Nat.le_of_eq ho.size.symm
    clear ho hk bO31_0 bO31_1
    have bO31_0 := hv0; clear hv0
    have bO31_1 := hv1; clear hv1
    refine pl_nil ?_
    refine qw_then ?_
    refine cw_clean [2, 3, 5, 6, 9, 10, 14, 15] (ws' := [(2, .int .i64 (mi : Int)), (3, .int .i64 (((W : Nat) : Int) : Int)), (5, .pointer (some ⟨O1, 0, none⟩)), (6, .pointer (some ⟨O5, 0, none⟩)), (9, .pointer (some ⟨O9, 0, none⟩)), (10, .pointer (some ⟨O13, 0, none⟩)), (14, .int .i64 (sp.1 + ((j : Nat) : Int) : Int)), (15, .pointer (some ⟨O31, 0, none⟩))]) (by kernel_rfl) (fun L => ?_)
    refine cw_seq ?_
    refine cw_plain ?_
    refine pl_take (.int .i64 (((W : Nat) : Int) : Int)) rfl (by kernel_rfl) (by kernel_rfl) (by kernel_rfl) (by kernel_rfl) ?_
    refine pl_take (.int .i64 (((W + 1 : Nat) : Int) : Int)) rfl (by kernel_rfl) (by kernel_rfl) (by kernel_rfl) (ev_wrap (by kernel_rfl) (by omega) (by omega)) ?_
    refine pl_take (.int .i64 0) rfl (by kernel_rfl) (by kernel_rfl) (by kernel_rfl) (by kernel_rfl) ?_
    refine pl_nil ?_
    refine qw_then ?_
    refine cw_block ?_
    have hX37 : Ext X35 X35 := Ext.refl _
    refine cw_loop [2, 3, 5, 6, 9, 10, 14, 15, 59, 60] (fun ws' wr m => ∃ k : Nat, ws' = [(2, .int .i64 (mi : Int)), (3, .int .i64 (((W : Nat) : Int) : Int)), (5, .pointer (some ⟨O1, 0, none⟩)), (6, .pointer (some ⟨O5, 0, none⟩)), (9, .pointer (some ⟨O9, 0, none⟩)), (10, .pointer (some ⟨O13, 0, none⟩)), (14, .int .i64 (sp.1 + ((j : Nat) : Int) : Int)), (15, .pointer (some ⟨O31, 0, none⟩)), (59, .int .i64 (((W + 1 : Nat) : Int) : Int)), (60, .int .i64 (((k : Nat) : Int) : Int))] ∧ m = W + 1 - k ∧ X35.heap.size ≤ wr.heap.size ∧ Ext w wr ∧ Ext w25 wr ∧ Ext X35 wr ∧ Swath.NoHit (Swath.bestP o sp mi W l) (j * (2 * W + 2) + 2 * k) ∧ k ≤ W + 1) (ws0 := [(2, .int .i64 (mi : Int)), (3, .int .i64 (((W : Nat) : Int) : Int)), (5, .pointer (some ⟨O1, 0, none⟩)), (6, .pointer (some ⟨O5, 0, none⟩)), (9, .pointer (some ⟨O9, 0, none⟩)), (10, .pointer (some ⟨O13, 0, none⟩)), (14, .int .i64 (sp.1 + ((j : Nat) : Int) : Int)), (15, .pointer (some ⟨O31, 0, none⟩)), (59, .int .i64 (((W + 1 : Nat) : Int) : Int)), (60, .int .i64 0)]) (by kernel_rfl) _ ⟨0, rfl, rfl, Nat.le_refl _, hE, hX27, hX37, (Swath.NoHit.le hitJ (by omega)), by omega⟩ ?_
    clear hE hX27 hX37
    rintro m40 L ws w39 ⟨k, rfl, rfl, hs38, hE, hX27, hX37, hitK, hk⟩
    by_cases hlt : k < W + 1
    ·
      refine cw_seq ?_
      refine cw_plain ?_
      refine pl_take (.bool true) rfl (by kernel_rfl) (by kernel_rfl) (by kernel_rfl) (ev_dec (show _ = Result.ok (Next.value (Value.bool (decide ((((k : Nat) : Int) : Int) < (((W + 1 : Nat) : Int) : Int))))) _ from by kernel_rfl) (by omega)) ?_
      refine pl_nil ?_
      refine qw_then ?_
      refine cw_seq ?_
      refine cw_t (by kernel_rfl) ?_
      refine cw_skip ?_
      refine qw_then ?_
      refine cw_seq ?_
      refine cw_block ?_
      refine cw_seq ?_
      refine cw_plain ?_
      refine pl_take (.int .i64 (((k : Nat) : Int) : Int)) rfl (by kernel_rfl) (by kernel_rfl) (by kernel_rfl) (by kernel_rfl) ?_
      refine pl_take (.int .i64 (((k : Nat) : Int) : Int)) rfl (by kernel_rfl) (by kernel_rfl) (by kernel_rfl) (by kernel_rfl) ?_
      refine pl_nil ?_
      refine qw_then ?_
      refine cw_seq ?_
      refine cw_plain ?_
      refine pl_take (.int .i64 (((k : Nat) : Int) : Int)) rfl (by kernel_rfl) (by kernel_rfl) (by kernel_rfl) (by kernel_rfl) ?_
      refine pl_take (.int .i64 (((k : Nat) : Int) : Int)) rfl (by kernel_rfl) (by kernel_rfl) (by kernel_rfl) (by kernel_rfl) ?_
      refine pl_take (.int .i64 (-(((k : Nat) : Int)) : Int)) rfl (by kernel_rfl) (by kernel_rfl) (by kernel_rfl) (ev_int (ev_wrap (a := 0 - (((k : Nat) : Int))) (by kernel_rfl) (by omega) (by omega)) (by omega)) ?_
      refine pl_take (.agg #[.int .i64 (((k : Nat) : Int) : Int), .int .i64 (-(((k : Nat) : Int)) : Int)]) rfl (by kernel_rfl) (by kernel_rfl) (by kernel_rfl) (by kernel_rfl) ?_
      refine pl_take (.int .i64 0) rfl (by kernel_rfl) (by kernel_rfl) (by kernel_rfl) (by kernel_rfl) ?_
      refine pl_nil ?_
      refine qw_then ?_
      refine cw_clean [2, 3, 5, 6, 9, 10, 14, 15, 16, 59, 60, 66, 67] (ws' := [(2, .int .i64 (mi : Int)), (3, .int .i64 (((W : Nat) : Int) : Int)), (5, .pointer (some ⟨O1, 0, none⟩)), (6, .pointer (some ⟨O5, 0, none⟩)), (9, .pointer (some ⟨O9, 0, none⟩)), (10, .pointer (some ⟨O13, 0, none⟩)), (14, .int .i64 (sp.1 + ((j : Nat) : Int) : Int)), (15, .pointer (some ⟨O31, 0, none⟩)), (16, .int .i64 (((k : Nat) : Int) : Int)), (59, .int .i64 (((W + 1 : Nat) : Int) : Int)), (60, .int .i64 (((k : Nat) : Int) : Int)), (66, .agg #[.int .i64 (((k : Nat) : Int) : Int), .int .i64 (-(((k : Nat) : Int)) : Int)]), (67, .int .i64 0)]) (by kernel_rfl) (fun L => ?_)
      refine cw_block ?_
      have hX41 : Ext w39 w39 := Ext.refl _
      refine cw_loop [2, 3, 5, 6, 9, 10, 14, 15, 16, 59, 60, 66, 67] (fun ws' wr m => ∃ q : Nat, ws' = [(2, .int .i64 (mi : Int)), (3, .int .i64 (((W : Nat) : Int) : Int)), (5, .pointer (some ⟨O1, 0, none⟩)), (6, .pointer (some ⟨O5, 0, none⟩)), (9, .pointer (some ⟨O9, 0, none⟩)), (10, .pointer (some ⟨O13, 0, none⟩)), (14, .int .i64 (sp.1 + ((j : Nat) : Int) : Int)), (15, .pointer (some ⟨O31, 0, none⟩)), (16, .int .i64 (((k : Nat) : Int) : Int)), (59, .int .i64 (((W + 1 : Nat) : Int) : Int)), (60, .int .i64 (((k : Nat) : Int) : Int)), (66, .agg #[.int .i64 (((k : Nat) : Int) : Int), .int .i64 (-(((k : Nat) : Int)) : Int)]), (67, .int .i64 (((q : Nat) : Int) : Int))] ∧ m = 2 - q ∧ w39.heap.size ≤ wr.heap.size ∧ Ext w wr ∧ Ext w25 wr ∧ Ext X35 wr ∧ Ext w39 wr ∧ Swath.NoHit (Swath.bestP o sp mi W l) (j * (2 * W + 2) + 2 * k + q) ∧ q ≤ 2) (ws0 := [(2, .int .i64 (mi : Int)), (3, .int .i64 (((W : Nat) : Int) : Int)), (5, .pointer (some ⟨O1, 0, none⟩)), (6, .pointer (some ⟨O5, 0, none⟩)), (9, .pointer (some ⟨O9, 0, none⟩)), (10, .pointer (some ⟨O13, 0, none⟩)), (14, .int .i64 (sp.1 + ((j : Nat) : Int) : Int)), (15, .pointer (some ⟨O31, 0, none⟩)), (16, .int .i64 (((k : Nat) : Int) : Int)), (59, .int .i64 (((W + 1 : Nat) : Int) : Int)), (60, .int .i64 (((k : Nat) : Int) : Int)), (66, .agg #[.int .i64 (((k : Nat) : Int) : Int), .int .i64 (-(((k : Nat) : Int)) : Int)]), (67, .int .i64 0)]) (by kernel_rfl) _ ⟨0, rfl, rfl, Nat.le_refl _, hE, hX27, hX37, hX41, (Swath.NoHit.le hitK (by omega)), by omega⟩ ?_
      clear hE hX27 hX37 hX41
      rintro m44 L ws w43 ⟨q, rfl, rfl, hs42, hE, hX27, hX37, hX41, hitQ, hq⟩
      rcases (show q = 0 ∨ q = 1 ∨ q = 2 by omega) with rfl | rfl | rfl
      ·
        refine cw_seq ?_
        refine cw_plain ?_
        refine pl_take (.bool true) rfl (by kernel_rfl) (by kernel_rfl) (by kernel_rfl) (by kernel_rfl) ?_
        refine pl_nil ?_
        refine qw_then ?_
        refine cw_seq ?_
        refine cw_t (by kernel_rfl) ?_
        refine cw_skip ?_
        refine qw_then ?_
        refine cw_seq ?_
        refine cw_block ?_
        refine cw_seq ?_
        refine cw_plain ?_
        refine pl_take (.int .i64 (((k : Nat) : Int) : Int)) rfl (by kernel_rfl) (by kernel_rfl) (by kernel_rfl) (by kernel_rfl) ?_
        refine pl_take (.int .i64 (((k : Nat) : Int) : Int)) rfl (by kernel_rfl) (by kernel_rfl) (by kernel_rfl) (by kernel_rfl) ?_
        refine pl_nil ?_
        refine qw_then ?_
        refine cw_clean [2, 3, 5, 6, 9, 10, 14, 15, 16, 18, 59, 60, 66, 67] (ws' := [(2, .int .i64 (mi : Int)), (3, .int .i64 (((W : Nat) : Int) : Int)), (5, .pointer (some ⟨O1, 0, none⟩)), (6, .pointer (some ⟨O5, 0, none⟩)), (9, .pointer (some ⟨O9, 0, none⟩)), (10, .pointer (some ⟨O13, 0, none⟩)), (14, .int .i64 (sp.1 + ((j : Nat) : Int) : Int)), (15, .pointer (some ⟨O31, 0, none⟩)), (16, .int .i64 (((k : Nat) : Int) : Int)), (18, .int .i64 (((k : Nat) : Int) : Int)), (59, .int .i64 (((W + 1 : Nat) : Int) : Int)), (60, .int .i64 (((k : Nat) : Int) : Int)), (66, .agg #[.int .i64 (((k : Nat) : Int) : Int), .int .i64 (-(((k : Nat) : Int)) : Int)]), (67, .int .i64 0)]) (by kernel_rfl) (fun L => ?_)
        refine cw_seq ?_
        refine cw_seq ?_
        have hlk : Swath.lkQ (2 * k + 0) = ((k : Nat) : Int) := Swath.lk_even k
        have hfs := Swath.best_at (o := o) (sp := sp) (mi := mi) (wd := W) (l := l) (j := j) (x := 2 * k + 0) (by omega)
        rw [hlk] at hfs
        rcases Bool.eq_false_or_eq_true (Swath.showsB o (sp.1 + ((j : Nat) : Int), sp.1 + ((j : Nat) : Int) + mi) (((k : Nat) : Int)) l) with hsh | hsh
        ·
          have hbest := Swath.best_hit (o := o) (sp := sp) (mi := mi) (wd := W) (l := l) (j := j) (x := 2 * k + 0) (by omega) (by omega) (Swath.NoHit.le hitQ (by omega)) (by rw [hlk]; exact hsh)
          rw [hlk] at hbest
          refine cw_plain ?_
          refine pl_take (.agg #[.int .i64 (o.p : Int), .int .i64 (o.f : Int), .int .i64 (o.lo : Int), .int .i64 (o.hi : Int), .int .i64 (o.nd : Int), .int .i64 (o.tn : Int), .int .i64 (o.sl : Int)]) rfl (by kernel_rfl) (by kernel_rfl) (by kernel_rfl) (ex_load rfl (by kernel_rfl) (ld24 ((BoxAt.ext hX27 bO1_0).1) ((BoxAt.ext hX27 bO1_1).1) ((BoxAt.ext hX27 bO1_2).1) ((BoxAt.ext hX27 bO1_3).1) ((BoxAt.ext hX27 bO1_4).1) ((BoxAt.ext hX27 bO1_5).1) ((BoxAt.ext hX27 bO1_6).1))) ?_
          refine pl_take (.agg #[.int .i64 (sp.1 + ((j : Nat) : Int) : Int), .int .i64 ((sp.1 + ((j : Nat) : Int)) + mi : Int)]) rfl (by kernel_rfl) (by kernel_rfl) (by kernel_rfl) (ex_load rfl (by kernel_rfl) (ld26 ((BoxAt.ext hX37 bO31_0).1) ((BoxAt.ext hX37 bO31_1).1))) ?_
          refine pl_take (.int .i64 (((k : Nat) : Int) : Int)) rfl (by kernel_rfl) (by kernel_rfl) (by kernel_rfl) (by kernel_rfl) ?_
          refine pl_take (.agg #[.slice a n c]) rfl (by kernel_rfl) (by kernel_rfl) (by kernel_rfl) (ex_load rfl (by kernel_rfl) (ld31 ((BoxAt.ext hX27 bO9_0).1))) ?_
          refine pl_step rfl (by kernel_rfl) (by kernel_rfl) (by kernel_rfl) (sn_call (f := 24) (args := #[.agg #[.int .i64 (o.p : Int), .int .i64 (o.f : Int), .int .i64 (o.lo : Int), .int .i64 (o.hi : Int), .int .i64 (o.nd : Int), .int .i64 (o.tn : Int), .int .i64 (o.sl : Int)], .agg #[.int .i64 (sp.1 + ((j : Nat) : Int) : Int), .int .i64 ((sp.1 + ((j : Nat) : Int)) + mi : Int)], .int .i64 (((k : Nat) : Int) : Int), .agg #[.slice a n c]]) (by kernel_rfl) ((Shows_r (s := (sp.1 + ((j : Nat) : Int), sp.1 + ((j : Nat) : Int) + mi)) (r := true) _ _ hA (e1.trans hE) hsh).mono ?_))
          rintro e w45 ⟨rfl, hb⟩
          replace hE := hE.trans hb
          replace hX27 := hX27.trans hb
          replace hX37 := hX37.trans hb
          replace hX41 := hX41.trans hb
          have hs46 := hb.size
          clear hb
          refine ⟨_, rfl, ?_⟩
          refine pl_nil ?_
          refine qw_then ?_
          refine cw_clean [2, 3, 5, 6, 9, 10, 14, 15, 16, 18, 59, 60, 66, 67, 74] (ws' := [(2, .int .i64 (mi : Int)), (3, .int .i64 (((W : Nat) : Int) : Int)), (5, .pointer (some ⟨O1, 0, none⟩)), (6, .pointer (some ⟨O5, 0, none⟩)), (9, .pointer (some ⟨O9, 0, none⟩)), (10, .pointer (some ⟨O13, 0, none⟩)), (14, .int .i64 (sp.1 + ((j : Nat) : Int) : Int)), (15, .pointer (some ⟨O31, 0, none⟩)), (16, .int .i64 (((k : Nat) : Int) : Int)), (18, .int .i64 (((k : Nat) : Int) : Int)), (59, .int .i64 (((W + 1 : Nat) : Int) : Int)), (60, .int .i64 (((k : Nat) : Int) : Int)), (66, .agg #[.int .i64 (((k : Nat) : Int) : Int), .int .i64 (-(((k : Nat) : Int)) : Int)]), (67, .int .i64 0), (74, .bool true)]) (by kernel_rfl) (fun L => ?_)
          refine cw_t (by kernel_rfl) ?_
          refine cw_seq ?_
          refine cw_plain ?_
          refine pl_take (.agg #[.int .i64 (sp.1 + ((j : Nat) : Int) : Int), .int .i64 ((sp.1 + ((j : Nat) : Int)) + mi : Int)]) rfl (by kernel_rfl) (by kernel_rfl) (by kernel_rfl) (ex_load rfl (by kernel_rfl) (ld26 ((BoxAt.ext hX37 bO31_0).1) ((BoxAt.ext hX37 bO31_1).1))) ?_
          refine pl_take (.int .i64 (((k : Nat) : Int) : Int)) rfl (by kernel_rfl) (by kernel_rfl) (by kernel_rfl) (by kernel_rfl) ?_
          have bO1_t48 := (BoxAt.ext hX27 bO1_0)
          have bO1_t49 := (BoxAt.ext hX27 bO1_1)
          have bO1_t50 := (BoxAt.ext hX27 bO1_2)
          have bO1_t51 := (BoxAt.ext hX27 bO1_3)
          have bO1_t52 := (BoxAt.ext hX27 bO1_4)
          have bO1_t53 := (BoxAt.ext hX27 bO1_5)
          have bO1_t54 := (BoxAt.ext hX27 bO1_6)
          have bO5_t55 := (BoxAt.ext hX27 bO5_0)
          have bO5_t56 := (BoxAt.ext hX27 bO5_1)
          have bO9_t57 := (BoxAt.ext hX27 bO9_0)
          have bO13_t58 := (BoxAt.ext hX27 bO13_0)
          have bO13_t59 := (BoxAt.ext hX27 bO13_1)
          have bO31_t60 := (BoxAt.ext hX37 bO31_0)
          have bO31_t61 := (BoxAt.ext hX37 bO31_1)
          refine pl_put rfl (by kernel_rfl) (by kernel_rfl) (sn_set2 (O := O13) (j := 0) (v := .int .i64 (sp.1 + ((j : Nat) : Int) : Int)) (v' := .int .i64 ((sp.1 + ((j : Nat) : Int)) + mi : Int)) (ex_store (p := .pointer (some ⟨O13, 0, none⟩)) (v := .agg #[.int .i64 (sp.1 + ((j : Nat) : Int) : Int), .int .i64 ((sp.1 + ((j : Nat) : Int)) + mi : Int)]) rfl (by kernel_rfl) (by kernel_rfl) (st26 bO13_t58.1 bO13_t58.2 bO13_t59.1 bO13_t59.2)) bO13_t58 bO13_t59 ?_)
          intro X47 ho hv0 hv1 hk
          replace hE := ho.ext hE (Nat.le_trans (Nat.le_trans hs3 (Nat.le_trans hs7 hs11)) (Nat.le_of_eq hzO13))
          replace bO1_t48 := ho.box (Nat.ne_of_gt (Nat.lt_of_lt_of_le lt4 (Nat.le_trans (Nat.le_trans hs7 hs11) (Nat.le_of_eq hzO13)))) bO1_t48
          replace bO1_t49 := ho.box (Nat.ne_of_gt (Nat.lt_of_lt_of_le lt4 (Nat.le_trans (Nat.le_trans hs7 hs11) (Nat.le_of_eq hzO13)))) bO1_t49
          replace bO1_t50 := ho.box (Nat.ne_of_gt (Nat.lt_of_lt_of_le lt4 (Nat.le_trans (Nat.le_trans hs7 hs11) (Nat.le_of_eq hzO13)))) bO1_t50
          replace bO1_t51 := ho.box (Nat.ne_of_gt (Nat.lt_of_lt_of_le lt4 (Nat.le_trans (Nat.le_trans hs7 hs11) (Nat.le_of_eq hzO13)))) bO1_t51
          replace bO1_t52 := ho.box (Nat.ne_of_gt (Nat.lt_of_lt_of_le lt4 (Nat.le_trans (Nat.le_trans hs7 hs11) (Nat.le_of_eq hzO13)))) bO1_t52
          replace bO1_t53 := ho.box (Nat.ne_of_gt (Nat.lt_of_lt_of_le lt4 (Nat.le_trans (Nat.le_trans hs7 hs11) (Nat.le_of_eq hzO13)))) bO1_t53
          replace bO1_t54 := ho.box (Nat.ne_of_gt (Nat.lt_of_lt_of_le lt4 (Nat.le_trans (Nat.le_trans hs7 hs11) (Nat.le_of_eq hzO13)))) bO1_t54
          replace bO5_t55 := ho.box (Nat.ne_of_gt (Nat.lt_of_lt_of_le lt8 (Nat.le_trans hs11 (Nat.le_of_eq hzO13)))) bO5_t55
          replace bO5_t56 := ho.box (Nat.ne_of_gt (Nat.lt_of_lt_of_le lt8 (Nat.le_trans hs11 (Nat.le_of_eq hzO13)))) bO5_t56
          replace bO9_t57 := ho.box (Nat.ne_of_gt (Nat.lt_of_lt_of_le lt12 (Nat.le_of_eq hzO13))) bO9_t57
          replace bO31_t60 := ho.box (Nat.ne_of_lt (Nat.lt_of_lt_of_le lt16 (Nat.le_trans (Nat.le_trans hs18 (Nat.le_trans hs20 (Nat.le_trans hs22 (Nat.le_trans hs24 (Nat.le_trans hs26 hs28))))) (Nat.le_of_eq hzO31)))) bO31_t60
          replace bO31_t61 := ho.box (Nat.ne_of_lt (Nat.lt_of_lt_of_le lt16 (Nat.le_trans (Nat.le_trans hs18 (Nat.le_trans hs20 (Nat.le_trans hs22 (Nat.le_trans hs24 (Nat.le_trans hs26 hs28))))) (Nat.le_of_eq hzO31)))) bO31_t61
          have hs62 : w45.heap.size ≤ X47.heap.size := Nat.le_of_eq ho.size.symm
          clear ho hk bO13_t58 bO13_t59
          have bO13_t58 := hv0; clear hv0
          have bO13_t59 := hv1; clear hv1
          refine pl_take (.int .i64 (((k : Nat) : Int) : Int)) rfl (by kernel_rfl) (by kernel_rfl) (by kernel_rfl) (by kernel_rfl) ?_
          refine pl_take (.bool true) rfl (by kernel_rfl) (by kernel_rfl) (by kernel_rfl) (by kernel_rfl) ?_
          refine pl_take (.int .i64 0) rfl (by kernel_rfl) (by kernel_rfl) (by kernel_rfl) (by kernel_rfl) ?_
          refine pl_nil ?_
          refine qw_then ?_
          refine cw_clean [10, 11, 12, 13] (ws' := [(10, .pointer (some ⟨O13, 0, none⟩)), (11, .int .i64 (((k : Nat) : Int) : Int)), (12, .bool true), (13, .int .i64 0)]) (by kernel_rfl) (fun L => ?_)
          refine cw_ret ?_
          refine qw_then_ret ?_
          refine qw_block_ret ?_
          refine qw_then_ret ?_
          refine qw_then_ret ?_
          refine qw_block_ret ?_
          refine qw_block_ret ?_
          refine qw_then_ret ?_
          refine qw_then_ret ?_
          refine qw_block_ret ?_
          refine qw_block_ret ?_
          refine qw_then_ret ?_
          refine qw_then_ret ?_
          refine qw_block_ret ?_
          refine qw_then_ret ?_
          refine qw_scope_ret ?_
          refine qw_ret [.agg #[.int .i64 (sp.1 + ((j : Nat) : Int) : Int), .int .i64 ((sp.1 + ((j : Nat) : Int)) + mi : Int)], .int .i64 (((k : Nat) : Int) : Int), .bool true, .int .i64 0] rfl ⟨⟨_, by kernel_rfl, res_ld (ld26 (bO13_t58.1) (bO13_t59.1))⟩, (by kernel_rfl), (by kernel_rfl), (by kernel_rfl), trivial⟩ ?_
          exact ⟨by rw [hbest]; rfl, hE⟩
        ·
          have hit9 := Swath.NoHit.next (Swath.NoHit.le hitQ (show j * (2 * W + 2) + (2 * k + 0) = _ by omega)) (hfs.trans hsh)
          refine cw_plain ?_
          refine pl_take (.agg #[.int .i64 (o.p : Int), .int .i64 (o.f : Int), .int .i64 (o.lo : Int), .int .i64 (o.hi : Int), .int .i64 (o.nd : Int), .int .i64 (o.tn : Int), .int .i64 (o.sl : Int)]) rfl (by kernel_rfl) (by kernel_rfl) (by kernel_rfl) (ex_load rfl (by kernel_rfl) (ld24 ((BoxAt.ext hX27 bO1_0).1) ((BoxAt.ext hX27 bO1_1).1) ((BoxAt.ext hX27 bO1_2).1) ((BoxAt.ext hX27 bO1_3).1) ((BoxAt.ext hX27 bO1_4).1) ((BoxAt.ext hX27 bO1_5).1) ((BoxAt.ext hX27 bO1_6).1))) ?_
          refine pl_take (.agg #[.int .i64 (sp.1 + ((j : Nat) : Int) : Int), .int .i64 ((sp.1 + ((j : Nat) : Int)) + mi : Int)]) rfl (by kernel_rfl) (by kernel_rfl) (by kernel_rfl) (ex_load rfl (by kernel_rfl) (ld26 ((BoxAt.ext hX37 bO31_0).1) ((BoxAt.ext hX37 bO31_1).1))) ?_
          refine pl_take (.int .i64 (((k : Nat) : Int) : Int)) rfl (by kernel_rfl) (by kernel_rfl) (by kernel_rfl) (by kernel_rfl) ?_
          refine pl_take (.agg #[.slice a n c]) rfl (by kernel_rfl) (by kernel_rfl) (by kernel_rfl) (ex_load rfl (by kernel_rfl) (ld31 ((BoxAt.ext hX27 bO9_0).1))) ?_
          refine pl_step rfl (by kernel_rfl) (by kernel_rfl) (by kernel_rfl) (sn_call (f := 24) (args := #[.agg #[.int .i64 (o.p : Int), .int .i64 (o.f : Int), .int .i64 (o.lo : Int), .int .i64 (o.hi : Int), .int .i64 (o.nd : Int), .int .i64 (o.tn : Int), .int .i64 (o.sl : Int)], .agg #[.int .i64 (sp.1 + ((j : Nat) : Int) : Int), .int .i64 ((sp.1 + ((j : Nat) : Int)) + mi : Int)], .int .i64 (((k : Nat) : Int) : Int), .agg #[.slice a n c]]) (by kernel_rfl) ((Shows_r (s := (sp.1 + ((j : Nat) : Int), sp.1 + ((j : Nat) : Int) + mi)) (r := false) _ _ hA (e1.trans hE) hsh).mono ?_))
          rintro e w63 ⟨rfl, hb⟩
          replace hE := hE.trans hb
          replace hX27 := hX27.trans hb
          replace hX37 := hX37.trans hb
          replace hX41 := hX41.trans hb
          have hs64 := hb.size
          clear hb
          refine ⟨_, rfl, ?_⟩
          refine pl_nil ?_
          refine qw_then ?_
          refine cw_clean [2, 3, 5, 6, 9, 10, 14, 15, 16, 18, 59, 60, 66, 67, 74] (ws' := [(2, .int .i64 (mi : Int)), (3, .int .i64 (((W : Nat) : Int) : Int)), (5, .pointer (some ⟨O1, 0, none⟩)), (6, .pointer (some ⟨O5, 0, none⟩)), (9, .pointer (some ⟨O9, 0, none⟩)), (10, .pointer (some ⟨O13, 0, none⟩)), (14, .int .i64 (sp.1 + ((j : Nat) : Int) : Int)), (15, .pointer (some ⟨O31, 0, none⟩)), (16, .int .i64 (((k : Nat) : Int) : Int)), (18, .int .i64 (((k : Nat) : Int) : Int)), (59, .int .i64 (((W + 1 : Nat) : Int) : Int)), (60, .int .i64 (((k : Nat) : Int) : Int)), (66, .agg #[.int .i64 (((k : Nat) : Int) : Int), .int .i64 (-(((k : Nat) : Int)) : Int)]), (67, .int .i64 0), (74, .bool false)]) (by kernel_rfl) (fun L => ?_)
          refine cw_f (by kernel_rfl) ?_
          refine cw_skip ?_
          refine qw_then ?_
          refine cw_clean [2, 3, 5, 6, 9, 10, 14, 15, 16, 18, 59, 60, 66, 67] (ws' := [(2, .int .i64 (mi : Int)), (3, .int .i64 (((W : Nat) : Int) : Int)), (5, .pointer (some ⟨O1, 0, none⟩)), (6, .pointer (some ⟨O5, 0, none⟩)), (9, .pointer (some ⟨O9, 0, none⟩)), (10, .pointer (some ⟨O13, 0, none⟩)), (14, .int .i64 (sp.1 + ((j : Nat) : Int) : Int)), (15, .pointer (some ⟨O31, 0, none⟩)), (16, .int .i64 (((k : Nat) : Int) : Int)), (18, .int .i64 (((k : Nat) : Int) : Int)), (59, .int .i64 (((W + 1 : Nat) : Int) : Int)), (60, .int .i64 (((k : Nat) : Int) : Int)), (66, .agg #[.int .i64 (((k : Nat) : Int) : Int), .int .i64 (-(((k : Nat) : Int)) : Int)]), (67, .int .i64 0)]) (by kernel_rfl) (fun L => ?_)
          refine cw_seq ?_
          refine cw_plain ?_
          refine pl_take (.int .i64 (((k : Nat) : Int) : Int)) rfl (by kernel_rfl) (by kernel_rfl) (by kernel_rfl) (by kernel_rfl) ?_
          refine pl_take (.int .i64 (((W : Nat) : Int) : Int)) rfl (by kernel_rfl) (by kernel_rfl) (by kernel_rfl) (by kernel_rfl) ?_
          by_cases hc65 : (((k : Nat) : Int) : Int) = (((W : Nat) : Int) : Int)
          ·
            refine pl_take (.bool true) rfl (by kernel_rfl) (by kernel_rfl) (by kernel_rfl) (ev_eq (show _ = Result.ok (Next.value (Value.bool ((((k : Nat) : Int) : Int) == (((W : Nat) : Int) : Int)))) _ from by kernel_rfl) (hc65)) ?_
            refine pl_take (.bool true) rfl (by kernel_rfl) (by kernel_rfl) (by kernel_rfl) (by kernel_rfl) ?_
            refine pl_take (.int .i64 (((k : Nat) : Int) : Int)) rfl (by kernel_rfl) (by kernel_rfl) (by kernel_rfl) (by kernel_rfl) ?_
            refine pl_take (.int .i64 (((k : Nat) : Int) : Int)) rfl (by kernel_rfl) (by kernel_rfl) (by kernel_rfl) (by kernel_rfl) ?_
            refine pl_take (.int .i64 (-(((k : Nat) : Int)) : Int)) rfl (by kernel_rfl) (by kernel_rfl) (by kernel_rfl) (ev_int (ev_wrap (a := 0 - (((k : Nat) : Int))) (by kernel_rfl) (by omega) (by omega)) (by omega)) ?_
            by_cases hc66 : (((k : Nat) : Int) : Int) = (-(((k : Nat) : Int)) : Int)
            ·
              have hk0 : k = 0 := by omega
              have hW0 : W = 0 := by omega
              have hit8 : Swath.NoHit (Swath.bestP o sp mi W l) (j * (2 * W + 2) + 2) := by
                subst hk0 hW0
                refine Swath.NoHit.le (Swath.NoHit.next hit9 ?_) (by omega)
                have h8 := Swath.best_at (o := o) (sp := sp) (mi := mi) (wd := 0) (l := l) (j := j) (x := 1) (by omega)
                rw [show Swath.lkQ 1 = ((0 : Nat) : Int) by decide] at h8
                exact (show Swath.bestP o sp mi 0 l (j * (2 * 0 + 2) + (2 * 0 + 0) + 1) = _ from h8).trans hsh
              refine pl_take (.bool true) rfl (by kernel_rfl) (by kernel_rfl) (by kernel_rfl) (ev_eq (show _ = Result.ok (Next.value (Value.bool ((((k : Nat) : Int) : Int) == (-(((k : Nat) : Int)) : Int)))) _ from by kernel_rfl) (hc66)) ?_
              refine pl_take (.bool true) rfl (by kernel_rfl) (by kernel_rfl) (by kernel_rfl) (by kernel_rfl) ?_
              refine pl_nil ?_
              refine qw_then ?_
              refine cw_clean [2, 3, 5, 6, 9, 10, 14, 15, 16, 59, 60, 66, 67, 85] (ws' := [(2, .int .i64 (mi : Int)), (3, .int .i64 (((W : Nat) : Int) : Int)), (5, .pointer (some ⟨O1, 0, none⟩)), (6, .pointer (some ⟨O5, 0, none⟩)), (9, .pointer (some ⟨O9, 0, none⟩)), (10, .pointer (some ⟨O13, 0, none⟩)), (14, .int .i64 (sp.1 + ((j : Nat) : Int) : Int)), (15, .pointer (some ⟨O31, 0, none⟩)), (16, .int .i64 (((k : Nat) : Int) : Int)), (59, .int .i64 (((W + 1 : Nat) : Int) : Int)), (60, .int .i64 (((k : Nat) : Int) : Int)), (66, .agg #[.int .i64 (((k : Nat) : Int) : Int), .int .i64 (-(((k : Nat) : Int)) : Int)]), (67, .int .i64 0), (85, .bool true)]) (by kernel_rfl) (fun L => ?_)
              refine cw_t (by kernel_rfl) ?_
              refine cw_exit ?_
              refine qw_block_on (by decide) ?_
              refine qw_then_exit ?_
              refine qw_then_exit ?_
              refine qw_block_on (by decide) ?_
              refine qw_block_on (by decide) ?_
              refine qw_then_exit ?_
              refine qw_then_exit ?_
              refine qw_block_on (by decide) ?_
              refine qw_block_out ?_
              refine qw_then ?_
              refine cw_plain ?_
              refine pl_take (.int .i64 (sp.1 + ((j : Nat) : Int) : Int)) rfl (by kernel_rfl) (by kernel_rfl) (by kernel_rfl) (by kernel_rfl) ?_
              refine pl_take (.int .i64 (sp.1 + ((j + 1 : Nat) : Int) : Int)) rfl (by kernel_rfl) (by kernel_rfl) (by kernel_rfl) (ev_int (ev_wrap (a := sp.1 + ((j : Nat) : Int) + 1) (by kernel_rfl) (by omega) (by omega)) (by omega)) ?_
              refine pl_take (.int .i64 (sp.1 + ((j + 1 : Nat) : Int) : Int)) rfl (by kernel_rfl) (by kernel_rfl) (by kernel_rfl) (by kernel_rfl) ?_
              refine pl_nil ?_
              refine qw_round [2, 3, 5, 6, 9, 10, 14] (ws' := [(2, .int .i64 (mi : Int)), (3, .int .i64 (((W : Nat) : Int) : Int)), (5, .pointer (some ⟨O1, 0, none⟩)), (6, .pointer (some ⟨O5, 0, none⟩)), (9, .pointer (some ⟨O9, 0, none⟩)), (10, .pointer (some ⟨O13, 0, none⟩)), (14, .int .i64 (sp.1 + ((j + 1 : Nat) : Int) : Int))]) (by kernel_rfl) _ ?_ ⟨(j + 1), rfl, rfl, (Nat.le_trans hs28 (Nat.le_trans hs33 (Nat.le_trans hs36 (Nat.le_trans hs38 (Nat.le_trans hs42 hs64))))), hE, hX27, (Swath.NoHit.le hit8 (by rw [Nat.succ_mul]; omega)), by omega⟩
              omega
            ·
              refine pl_take (.bool false) rfl (by kernel_rfl) (by kernel_rfl) (by kernel_rfl) (ev_neq (show _ = Result.ok (Next.value (Value.bool ((((k : Nat) : Int) : Int) == (-(((k : Nat) : Int)) : Int)))) _ from by kernel_rfl) (hc66)) ?_
              refine pl_take (.bool false) rfl (by kernel_rfl) (by kernel_rfl) (by kernel_rfl) (by kernel_rfl) ?_
              refine pl_nil ?_
              refine qw_then ?_
              refine cw_clean [2, 3, 5, 6, 9, 10, 14, 15, 16, 59, 60, 66, 67, 85] (ws' := [(2, .int .i64 (mi : Int)), (3, .int .i64 (((W : Nat) : Int) : Int)), (5, .pointer (some ⟨O1, 0, none⟩)), (6, .pointer (some ⟨O5, 0, none⟩)), (9, .pointer (some ⟨O9, 0, none⟩)), (10, .pointer (some ⟨O13, 0, none⟩)), (14, .int .i64 (sp.1 + ((j : Nat) : Int) : Int)), (15, .pointer (some ⟨O31, 0, none⟩)), (16, .int .i64 (((k : Nat) : Int) : Int)), (59, .int .i64 (((W + 1 : Nat) : Int) : Int)), (60, .int .i64 (((k : Nat) : Int) : Int)), (66, .agg #[.int .i64 (((k : Nat) : Int) : Int), .int .i64 (-(((k : Nat) : Int)) : Int)]), (67, .int .i64 0), (85, .bool false)]) (by kernel_rfl) (fun L => ?_)
              refine cw_f (by kernel_rfl) ?_
              refine cw_skip ?_
              refine qw_block ?_
              refine qw_then ?_
              refine cw_plain ?_
              refine pl_take (.int .i64 1) rfl (by kernel_rfl) (by kernel_rfl) (by kernel_rfl) (by kernel_rfl) ?_
              refine pl_take (.int .i64 1) rfl (by kernel_rfl) (by kernel_rfl) (by kernel_rfl) (by kernel_rfl) ?_
              refine pl_nil ?_
              refine qw_round [2, 3, 5, 6, 9, 10, 14, 15, 16, 59, 60, 66, 67] (ws' := [(2, .int .i64 (mi : Int)), (3, .int .i64 (((W : Nat) : Int) : Int)), (5, .pointer (some ⟨O1, 0, none⟩)), (6, .pointer (some ⟨O5, 0, none⟩)), (9, .pointer (some ⟨O9, 0, none⟩)), (10, .pointer (some ⟨O13, 0, none⟩)), (14, .int .i64 (sp.1 + ((j : Nat) : Int) : Int)), (15, .pointer (some ⟨O31, 0, none⟩)), (16, .int .i64 (((k : Nat) : Int) : Int)), (59, .int .i64 (((W + 1 : Nat) : Int) : Int)), (60, .int .i64 (((k : Nat) : Int) : Int)), (66, .agg #[.int .i64 (((k : Nat) : Int) : Int), .int .i64 (-(((k : Nat) : Int)) : Int)]), (67, .int .i64 1)]) (by kernel_rfl) _ ?_ ⟨1, rfl, rfl, (Nat.le_trans hs42 hs64), hE, hX27, hX37, hX41, (Swath.NoHit.le (hit9) (by omega)), by omega⟩
              omega
          ·
            refine pl_take (.bool false) rfl (by kernel_rfl) (by kernel_rfl) (by kernel_rfl) (ev_neq (show _ = Result.ok (Next.value (Value.bool ((((k : Nat) : Int) : Int) == (((W : Nat) : Int) : Int)))) _ from by kernel_rfl) (hc65)) ?_
            refine pl_take (.bool false) rfl (by kernel_rfl) (by kernel_rfl) (by kernel_rfl) (by kernel_rfl) ?_
            refine pl_skip rfl (by kernel_rfl) (by kernel_rfl) (by kernel_rfl) ?_
            refine pl_skip rfl (by kernel_rfl) (by kernel_rfl) (by kernel_rfl) ?_
            refine pl_skip rfl (by kernel_rfl) (by kernel_rfl) (by kernel_rfl) ?_
            refine pl_skip rfl (by kernel_rfl) (by kernel_rfl) (by kernel_rfl) ?_
            refine pl_take (.bool false) rfl (by kernel_rfl) (by kernel_rfl) (by kernel_rfl) (by kernel_rfl) ?_
            refine pl_nil ?_
            refine qw_then ?_
            refine cw_clean [2, 3, 5, 6, 9, 10, 14, 15, 16, 59, 60, 66, 67, 85] (ws' := [(2, .int .i64 (mi : Int)), (3, .int .i64 (((W : Nat) : Int) : Int)), (5, .pointer (some ⟨O1, 0, none⟩)), (6, .pointer (some ⟨O5, 0, none⟩)), (9, .pointer (some ⟨O9, 0, none⟩)), (10, .pointer (some ⟨O13, 0, none⟩)), (14, .int .i64 (sp.1 + ((j : Nat) : Int) : Int)), (15, .pointer (some ⟨O31, 0, none⟩)), (16, .int .i64 (((k : Nat) : Int) : Int)), (59, .int .i64 (((W + 1 : Nat) : Int) : Int)), (60, .int .i64 (((k : Nat) : Int) : Int)), (66, .agg #[.int .i64 (((k : Nat) : Int) : Int), .int .i64 (-(((k : Nat) : Int)) : Int)]), (67, .int .i64 0), (85, .bool false)]) (by kernel_rfl) (fun L => ?_)
            refine cw_f (by kernel_rfl) ?_
            refine cw_skip ?_
            refine qw_block ?_
            refine qw_then ?_
            refine cw_plain ?_
            refine pl_take (.int .i64 1) rfl (by kernel_rfl) (by kernel_rfl) (by kernel_rfl) (by kernel_rfl) ?_
            refine pl_take (.int .i64 1) rfl (by kernel_rfl) (by kernel_rfl) (by kernel_rfl) (by kernel_rfl) ?_
            refine pl_nil ?_
            refine qw_round [2, 3, 5, 6, 9, 10, 14, 15, 16, 59, 60, 66, 67] (ws' := [(2, .int .i64 (mi : Int)), (3, .int .i64 (((W : Nat) : Int) : Int)), (5, .pointer (some ⟨O1, 0, none⟩)), (6, .pointer (some ⟨O5, 0, none⟩)), (9, .pointer (some ⟨O9, 0, none⟩)), (10, .pointer (some ⟨O13, 0, none⟩)), (14, .int .i64 (sp.1 + ((j : Nat) : Int) : Int)), (15, .pointer (some ⟨O31, 0, none⟩)), (16, .int .i64 (((k : Nat) : Int) : Int)), (59, .int .i64 (((W + 1 : Nat) : Int) : Int)), (60, .int .i64 (((k : Nat) : Int) : Int)), (66, .agg #[.int .i64 (((k : Nat) : Int) : Int), .int .i64 (-(((k : Nat) : Int)) : Int)]), (67, .int .i64 1)]) (by kernel_rfl) _ ?_ ⟨1, rfl, rfl, (Nat.le_trans hs42 hs64), hE, hX27, hX37, hX41, (Swath.NoHit.le (hit9) (by omega)), by omega⟩
            omega
      ·
        refine cw_seq ?_
        refine cw_plain ?_
        refine pl_take (.bool true) rfl (by kernel_rfl) (by kernel_rfl) (by kernel_rfl) (by kernel_rfl) ?_
        refine pl_nil ?_
        refine qw_then ?_
        refine cw_seq ?_
        refine cw_t (by kernel_rfl) ?_
        refine cw_skip ?_
        refine qw_then ?_
        refine cw_seq ?_
        refine cw_block ?_
        refine cw_seq ?_
        refine cw_plain ?_
        refine pl_take (.int .i64 (-(((k : Nat) : Int)) : Int)) rfl (by kernel_rfl) (by kernel_rfl) (by kernel_rfl) (by kernel_rfl) ?_
        refine pl_take (.int .i64 (-(((k : Nat) : Int)) : Int)) rfl (by kernel_rfl) (by kernel_rfl) (by kernel_rfl) (by kernel_rfl) ?_
        refine pl_nil ?_
        refine qw_then ?_
        refine cw_clean [2, 3, 5, 6, 9, 10, 14, 15, 16, 18, 59, 60, 66, 67] (ws' := [(2, .int .i64 (mi : Int)), (3, .int .i64 (((W : Nat) : Int) : Int)), (5, .pointer (some ⟨O1, 0, none⟩)), (6, .pointer (some ⟨O5, 0, none⟩)), (9, .pointer (some ⟨O9, 0, none⟩)), (10, .pointer (some ⟨O13, 0, none⟩)), (14, .int .i64 (sp.1 + ((j : Nat) : Int) : Int)), (15, .pointer (some ⟨O31, 0, none⟩)), (16, .int .i64 (((k : Nat) : Int) : Int)), (18, .int .i64 (-(((k : Nat) : Int)) : Int)), (59, .int .i64 (((W + 1 : Nat) : Int) : Int)), (60, .int .i64 (((k : Nat) : Int) : Int)), (66, .agg #[.int .i64 (((k : Nat) : Int) : Int), .int .i64 (-(((k : Nat) : Int)) : Int)]), (67, .int .i64 1)]) (by kernel_rfl) (fun L => ?_)
        refine cw_seq ?_
        refine cw_seq ?_
        have hlk : Swath.lkQ (2 * k + 1) = -((k : Nat) : Int) := Swath.lk_odd k
        have hfs := Swath.best_at (o := o) (sp := sp) (mi := mi) (wd := W) (l := l) (j := j) (x := 2 * k + 1) (by omega)
        rw [hlk] at hfs
        rcases Bool.eq_false_or_eq_true (Swath.showsB o (sp.1 + ((j : Nat) : Int), sp.1 + ((j : Nat) : Int) + mi) (-((k : Nat) : Int)) l) with hsh | hsh
        ·
          have hbest := Swath.best_hit (o := o) (sp := sp) (mi := mi) (wd := W) (l := l) (j := j) (x := 2 * k + 1) (by omega) (by omega) (Swath.NoHit.le hitQ (by omega)) (by rw [hlk]; exact hsh)
          rw [hlk] at hbest
          refine cw_plain ?_
          refine pl_take (.agg #[.int .i64 (o.p : Int), .int .i64 (o.f : Int), .int .i64 (o.lo : Int), .int .i64 (o.hi : Int), .int .i64 (o.nd : Int), .int .i64 (o.tn : Int), .int .i64 (o.sl : Int)]) rfl (by kernel_rfl) (by kernel_rfl) (by kernel_rfl) (ex_load rfl (by kernel_rfl) (ld24 ((BoxAt.ext hX27 bO1_0).1) ((BoxAt.ext hX27 bO1_1).1) ((BoxAt.ext hX27 bO1_2).1) ((BoxAt.ext hX27 bO1_3).1) ((BoxAt.ext hX27 bO1_4).1) ((BoxAt.ext hX27 bO1_5).1) ((BoxAt.ext hX27 bO1_6).1))) ?_
          refine pl_take (.agg #[.int .i64 (sp.1 + ((j : Nat) : Int) : Int), .int .i64 ((sp.1 + ((j : Nat) : Int)) + mi : Int)]) rfl (by kernel_rfl) (by kernel_rfl) (by kernel_rfl) (ex_load rfl (by kernel_rfl) (ld26 ((BoxAt.ext hX37 bO31_0).1) ((BoxAt.ext hX37 bO31_1).1))) ?_
          refine pl_take (.int .i64 (-(((k : Nat) : Int)) : Int)) rfl (by kernel_rfl) (by kernel_rfl) (by kernel_rfl) (by kernel_rfl) ?_
          refine pl_take (.agg #[.slice a n c]) rfl (by kernel_rfl) (by kernel_rfl) (by kernel_rfl) (ex_load rfl (by kernel_rfl) (ld31 ((BoxAt.ext hX27 bO9_0).1))) ?_
          refine pl_step rfl (by kernel_rfl) (by kernel_rfl) (by kernel_rfl) (sn_call (f := 24) (args := #[.agg #[.int .i64 (o.p : Int), .int .i64 (o.f : Int), .int .i64 (o.lo : Int), .int .i64 (o.hi : Int), .int .i64 (o.nd : Int), .int .i64 (o.tn : Int), .int .i64 (o.sl : Int)], .agg #[.int .i64 (sp.1 + ((j : Nat) : Int) : Int), .int .i64 ((sp.1 + ((j : Nat) : Int)) + mi : Int)], .int .i64 (-(((k : Nat) : Int)) : Int), .agg #[.slice a n c]]) (by kernel_rfl) ((Shows_r (s := (sp.1 + ((j : Nat) : Int), sp.1 + ((j : Nat) : Int) + mi)) (r := true) _ _ hA (e1.trans hE) hsh).mono ?_))
          rintro e w67 ⟨rfl, hb⟩
          replace hE := hE.trans hb
          replace hX27 := hX27.trans hb
          replace hX37 := hX37.trans hb
          replace hX41 := hX41.trans hb
          have hs68 := hb.size
          clear hb
          refine ⟨_, rfl, ?_⟩
          refine pl_nil ?_
          refine qw_then ?_
          refine cw_clean [2, 3, 5, 6, 9, 10, 14, 15, 16, 18, 59, 60, 66, 67, 74] (ws' := [(2, .int .i64 (mi : Int)), (3, .int .i64 (((W : Nat) : Int) : Int)), (5, .pointer (some ⟨O1, 0, none⟩)), (6, .pointer (some ⟨O5, 0, none⟩)), (9, .pointer (some ⟨O9, 0, none⟩)), (10, .pointer (some ⟨O13, 0, none⟩)), (14, .int .i64 (sp.1 + ((j : Nat) : Int) : Int)), (15, .pointer (some ⟨O31, 0, none⟩)), (16, .int .i64 (((k : Nat) : Int) : Int)), (18, .int .i64 (-(((k : Nat) : Int)) : Int)), (59, .int .i64 (((W + 1 : Nat) : Int) : Int)), (60, .int .i64 (((k : Nat) : Int) : Int)), (66, .agg #[.int .i64 (((k : Nat) : Int) : Int), .int .i64 (-(((k : Nat) : Int)) : Int)]), (67, .int .i64 1), (74, .bool true)]) (by kernel_rfl) (fun L => ?_)
          refine cw_t (by kernel_rfl) ?_
          refine cw_seq ?_
          refine cw_plain ?_
          refine pl_take (.agg #[.int .i64 (sp.1 + ((j : Nat) : Int) : Int), .int .i64 ((sp.1 + ((j : Nat) : Int)) + mi : Int)]) rfl (by kernel_rfl) (by kernel_rfl) (by kernel_rfl) (ex_load rfl (by kernel_rfl) (ld26 ((BoxAt.ext hX37 bO31_0).1) ((BoxAt.ext hX37 bO31_1).1))) ?_
          refine pl_take (.int .i64 (-(((k : Nat) : Int)) : Int)) rfl (by kernel_rfl) (by kernel_rfl) (by kernel_rfl) (by kernel_rfl) ?_
          have bO1_t70 := (BoxAt.ext hX27 bO1_0)
          have bO1_t71 := (BoxAt.ext hX27 bO1_1)
          have bO1_t72 := (BoxAt.ext hX27 bO1_2)
          have bO1_t73 := (BoxAt.ext hX27 bO1_3)
          have bO1_t74 := (BoxAt.ext hX27 bO1_4)
          have bO1_t75 := (BoxAt.ext hX27 bO1_5)
          have bO1_t76 := (BoxAt.ext hX27 bO1_6)
          have bO5_t77 := (BoxAt.ext hX27 bO5_0)
          have bO5_t78 := (BoxAt.ext hX27 bO5_1)
          have bO9_t79 := (BoxAt.ext hX27 bO9_0)
          have bO13_t80 := (BoxAt.ext hX27 bO13_0)
          have bO13_t81 := (BoxAt.ext hX27 bO13_1)
          have bO31_t82 := (BoxAt.ext hX37 bO31_0)
          have bO31_t83 := (BoxAt.ext hX37 bO31_1)
          refine pl_put rfl (by kernel_rfl) (by kernel_rfl) (sn_set2 (O := O13) (j := 0) (v := .int .i64 (sp.1 + ((j : Nat) : Int) : Int)) (v' := .int .i64 ((sp.1 + ((j : Nat) : Int)) + mi : Int)) (ex_store (p := .pointer (some ⟨O13, 0, none⟩)) (v := .agg #[.int .i64 (sp.1 + ((j : Nat) : Int) : Int), .int .i64 ((sp.1 + ((j : Nat) : Int)) + mi : Int)]) rfl (by kernel_rfl) (by kernel_rfl) (st26 bO13_t80.1 bO13_t80.2 bO13_t81.1 bO13_t81.2)) bO13_t80 bO13_t81 ?_)
          intro X69 ho hv0 hv1 hk
          replace hE := ho.ext hE (Nat.le_trans (Nat.le_trans hs3 (Nat.le_trans hs7 hs11)) (Nat.le_of_eq hzO13))
          replace bO1_t70 := ho.box (Nat.ne_of_gt (Nat.lt_of_lt_of_le lt4 (Nat.le_trans (Nat.le_trans hs7 hs11) (Nat.le_of_eq hzO13)))) bO1_t70
          replace bO1_t71 := ho.box (Nat.ne_of_gt (Nat.lt_of_lt_of_le lt4 (Nat.le_trans (Nat.le_trans hs7 hs11) (Nat.le_of_eq hzO13)))) bO1_t71
          replace bO1_t72 := ho.box (Nat.ne_of_gt (Nat.lt_of_lt_of_le lt4 (Nat.le_trans (Nat.le_trans hs7 hs11) (Nat.le_of_eq hzO13)))) bO1_t72
          replace bO1_t73 := ho.box (Nat.ne_of_gt (Nat.lt_of_lt_of_le lt4 (Nat.le_trans (Nat.le_trans hs7 hs11) (Nat.le_of_eq hzO13)))) bO1_t73
          replace bO1_t74 := ho.box (Nat.ne_of_gt (Nat.lt_of_lt_of_le lt4 (Nat.le_trans (Nat.le_trans hs7 hs11) (Nat.le_of_eq hzO13)))) bO1_t74
          replace bO1_t75 := ho.box (Nat.ne_of_gt (Nat.lt_of_lt_of_le lt4 (Nat.le_trans (Nat.le_trans hs7 hs11) (Nat.le_of_eq hzO13)))) bO1_t75
          replace bO1_t76 := ho.box (Nat.ne_of_gt (Nat.lt_of_lt_of_le lt4 (Nat.le_trans (Nat.le_trans hs7 hs11) (Nat.le_of_eq hzO13)))) bO1_t76
          replace bO5_t77 := ho.box (Nat.ne_of_gt (Nat.lt_of_lt_of_le lt8 (Nat.le_trans hs11 (Nat.le_of_eq hzO13)))) bO5_t77
          replace bO5_t78 := ho.box (Nat.ne_of_gt (Nat.lt_of_lt_of_le lt8 (Nat.le_trans hs11 (Nat.le_of_eq hzO13)))) bO5_t78
          replace bO9_t79 := ho.box (Nat.ne_of_gt (Nat.lt_of_lt_of_le lt12 (Nat.le_of_eq hzO13))) bO9_t79
          replace bO31_t82 := ho.box (Nat.ne_of_lt (Nat.lt_of_lt_of_le lt16 (Nat.le_trans (Nat.le_trans hs18 (Nat.le_trans hs20 (Nat.le_trans hs22 (Nat.le_trans hs24 (Nat.le_trans hs26 hs28))))) (Nat.le_of_eq hzO31)))) bO31_t82
          replace bO31_t83 := ho.box (Nat.ne_of_lt (Nat.lt_of_lt_of_le lt16 (Nat.le_trans (Nat.le_trans hs18 (Nat.le_trans hs20 (Nat.le_trans hs22 (Nat.le_trans hs24 (Nat.le_trans hs26 hs28))))) (Nat.le_of_eq hzO31)))) bO31_t83
          have hs84 : w67.heap.size ≤ X69.heap.size := Nat.le_of_eq ho.size.symm
          clear ho hk bO13_t80 bO13_t81
          have bO13_t80 := hv0; clear hv0
          have bO13_t81 := hv1; clear hv1
          refine pl_take (.int .i64 (-(((k : Nat) : Int)) : Int)) rfl (by kernel_rfl) (by kernel_rfl) (by kernel_rfl) (by kernel_rfl) ?_
          refine pl_take (.bool true) rfl (by kernel_rfl) (by kernel_rfl) (by kernel_rfl) (by kernel_rfl) ?_
          refine pl_take (.int .i64 0) rfl (by kernel_rfl) (by kernel_rfl) (by kernel_rfl) (by kernel_rfl) ?_
          refine pl_nil ?_
          refine qw_then ?_
          refine cw_clean [10, 11, 12, 13] (ws' := [(10, .pointer (some ⟨O13, 0, none⟩)), (11, .int .i64 (-(((k : Nat) : Int)) : Int)), (12, .bool true), (13, .int .i64 0)]) (by kernel_rfl) (fun L => ?_)
          refine cw_ret ?_
          refine qw_then_ret ?_
          refine qw_block_ret ?_
          refine qw_then_ret ?_
          refine qw_then_ret ?_
          refine qw_block_ret ?_
          refine qw_block_ret ?_
          refine qw_then_ret ?_
          refine qw_then_ret ?_
          refine qw_block_ret ?_
          refine qw_block_ret ?_
          refine qw_then_ret ?_
          refine qw_then_ret ?_
          refine qw_block_ret ?_
          refine qw_then_ret ?_
          refine qw_scope_ret ?_
          refine qw_ret [.agg #[.int .i64 (sp.1 + ((j : Nat) : Int) : Int), .int .i64 ((sp.1 + ((j : Nat) : Int)) + mi : Int)], .int .i64 (-(((k : Nat) : Int)) : Int), .bool true, .int .i64 0] rfl ⟨⟨_, by kernel_rfl, res_ld (ld26 (bO13_t80.1) (bO13_t81.1))⟩, (by kernel_rfl), (by kernel_rfl), (by kernel_rfl), trivial⟩ ?_
          exact ⟨by rw [hbest]; rfl, hE⟩
        ·
          have hit9 := Swath.NoHit.next (Swath.NoHit.le hitQ (show j * (2 * W + 2) + (2 * k + 1) = _ by omega)) (hfs.trans hsh)
          refine cw_plain ?_
          refine pl_take (.agg #[.int .i64 (o.p : Int), .int .i64 (o.f : Int), .int .i64 (o.lo : Int), .int .i64 (o.hi : Int), .int .i64 (o.nd : Int), .int .i64 (o.tn : Int), .int .i64 (o.sl : Int)]) rfl (by kernel_rfl) (by kernel_rfl) (by kernel_rfl) (ex_load rfl (by kernel_rfl) (ld24 ((BoxAt.ext hX27 bO1_0).1) ((BoxAt.ext hX27 bO1_1).1) ((BoxAt.ext hX27 bO1_2).1) ((BoxAt.ext hX27 bO1_3).1) ((BoxAt.ext hX27 bO1_4).1) ((BoxAt.ext hX27 bO1_5).1) ((BoxAt.ext hX27 bO1_6).1))) ?_
          refine pl_take (.agg #[.int .i64 (sp.1 + ((j : Nat) : Int) : Int), .int .i64 ((sp.1 + ((j : Nat) : Int)) + mi : Int)]) rfl (by kernel_rfl) (by kernel_rfl) (by kernel_rfl) (ex_load rfl (by kernel_rfl) (ld26 ((BoxAt.ext hX37 bO31_0).1) ((BoxAt.ext hX37 bO31_1).1))) ?_
          refine pl_take (.int .i64 (-(((k : Nat) : Int)) : Int)) rfl (by kernel_rfl) (by kernel_rfl) (by kernel_rfl) (by kernel_rfl) ?_
          refine pl_take (.agg #[.slice a n c]) rfl (by kernel_rfl) (by kernel_rfl) (by kernel_rfl) (ex_load rfl (by kernel_rfl) (ld31 ((BoxAt.ext hX27 bO9_0).1))) ?_
          refine pl_step rfl (by kernel_rfl) (by kernel_rfl) (by kernel_rfl) (sn_call (f := 24) (args := #[.agg #[.int .i64 (o.p : Int), .int .i64 (o.f : Int), .int .i64 (o.lo : Int), .int .i64 (o.hi : Int), .int .i64 (o.nd : Int), .int .i64 (o.tn : Int), .int .i64 (o.sl : Int)], .agg #[.int .i64 (sp.1 + ((j : Nat) : Int) : Int), .int .i64 ((sp.1 + ((j : Nat) : Int)) + mi : Int)], .int .i64 (-(((k : Nat) : Int)) : Int), .agg #[.slice a n c]]) (by kernel_rfl) ((Shows_r (s := (sp.1 + ((j : Nat) : Int), sp.1 + ((j : Nat) : Int) + mi)) (r := false) _ _ hA (e1.trans hE) hsh).mono ?_))
          rintro e w85 ⟨rfl, hb⟩
          replace hE := hE.trans hb
          replace hX27 := hX27.trans hb
          replace hX37 := hX37.trans hb
          replace hX41 := hX41.trans hb
          have hs86 := hb.size
          clear hb
          refine ⟨_, rfl, ?_⟩
          refine pl_nil ?_
          refine qw_then ?_
          refine cw_clean [2, 3, 5, 6, 9, 10, 14, 15, 16, 18, 59, 60, 66, 67, 74] (ws' := [(2, .int .i64 (mi : Int)), (3, .int .i64 (((W : Nat) : Int) : Int)), (5, .pointer (some ⟨O1, 0, none⟩)), (6, .pointer (some ⟨O5, 0, none⟩)), (9, .pointer (some ⟨O9, 0, none⟩)), (10, .pointer (some ⟨O13, 0, none⟩)), (14, .int .i64 (sp.1 + ((j : Nat) : Int) : Int)), (15, .pointer (some ⟨O31, 0, none⟩)), (16, .int .i64 (((k : Nat) : Int) : Int)), (18, .int .i64 (-(((k : Nat) : Int)) : Int)), (59, .int .i64 (((W + 1 : Nat) : Int) : Int)), (60, .int .i64 (((k : Nat) : Int) : Int)), (66, .agg #[.int .i64 (((k : Nat) : Int) : Int), .int .i64 (-(((k : Nat) : Int)) : Int)]), (67, .int .i64 1), (74, .bool false)]) (by kernel_rfl) (fun L => ?_)
          refine cw_f (by kernel_rfl) ?_
          refine cw_skip ?_
          refine qw_then ?_
          refine cw_clean [2, 3, 5, 6, 9, 10, 14, 15, 16, 18, 59, 60, 66, 67] (ws' := [(2, .int .i64 (mi : Int)), (3, .int .i64 (((W : Nat) : Int) : Int)), (5, .pointer (some ⟨O1, 0, none⟩)), (6, .pointer (some ⟨O5, 0, none⟩)), (9, .pointer (some ⟨O9, 0, none⟩)), (10, .pointer (some ⟨O13, 0, none⟩)), (14, .int .i64 (sp.1 + ((j : Nat) : Int) : Int)), (15, .pointer (some ⟨O31, 0, none⟩)), (16, .int .i64 (((k : Nat) : Int) : Int)), (18, .int .i64 (-(((k : Nat) : Int)) : Int)), (59, .int .i64 (((W + 1 : Nat) : Int) : Int)), (60, .int .i64 (((k : Nat) : Int) : Int)), (66, .agg #[.int .i64 (((k : Nat) : Int) : Int), .int .i64 (-(((k : Nat) : Int)) : Int)]), (67, .int .i64 1)]) (by kernel_rfl) (fun L => ?_)
          refine cw_seq ?_
          refine cw_plain ?_
          refine pl_take (.int .i64 (((k : Nat) : Int) : Int)) rfl (by kernel_rfl) (by kernel_rfl) (by kernel_rfl) (by kernel_rfl) ?_
          refine pl_take (.int .i64 (((W : Nat) : Int) : Int)) rfl (by kernel_rfl) (by kernel_rfl) (by kernel_rfl) (by kernel_rfl) ?_
          by_cases hc87 : (((k : Nat) : Int) : Int) = (((W : Nat) : Int) : Int)
          ·
            refine pl_take (.bool true) rfl (by kernel_rfl) (by kernel_rfl) (by kernel_rfl) (ev_eq (show _ = Result.ok (Next.value (Value.bool ((((k : Nat) : Int) : Int) == (((W : Nat) : Int) : Int)))) _ from by kernel_rfl) (hc87)) ?_
            refine pl_take (.bool true) rfl (by kernel_rfl) (by kernel_rfl) (by kernel_rfl) (by kernel_rfl) ?_
            refine pl_take (.int .i64 (-(((k : Nat) : Int)) : Int)) rfl (by kernel_rfl) (by kernel_rfl) (by kernel_rfl) (by kernel_rfl) ?_
            refine pl_take (.int .i64 (((k : Nat) : Int) : Int)) rfl (by kernel_rfl) (by kernel_rfl) (by kernel_rfl) (by kernel_rfl) ?_
            refine pl_take (.int .i64 (-(((k : Nat) : Int)) : Int)) rfl (by kernel_rfl) (by kernel_rfl) (by kernel_rfl) (ev_int (ev_wrap (a := 0 - (((k : Nat) : Int))) (by kernel_rfl) (by omega) (by omega)) (by omega)) ?_
            by_cases hc88 : (-(((k : Nat) : Int)) : Int) = (-(((k : Nat) : Int)) : Int)
            ·
              refine pl_take (.bool true) rfl (by kernel_rfl) (by kernel_rfl) (by kernel_rfl) (ev_eq (show _ = Result.ok (Next.value (Value.bool ((-(((k : Nat) : Int)) : Int) == (-(((k : Nat) : Int)) : Int)))) _ from by kernel_rfl) (hc88)) ?_
              refine pl_take (.bool true) rfl (by kernel_rfl) (by kernel_rfl) (by kernel_rfl) (by kernel_rfl) ?_
              refine pl_nil ?_
              refine qw_then ?_
              refine cw_clean [2, 3, 5, 6, 9, 10, 14, 15, 16, 59, 60, 66, 67, 85] (ws' := [(2, .int .i64 (mi : Int)), (3, .int .i64 (((W : Nat) : Int) : Int)), (5, .pointer (some ⟨O1, 0, none⟩)), (6, .pointer (some ⟨O5, 0, none⟩)), (9, .pointer (some ⟨O9, 0, none⟩)), (10, .pointer (some ⟨O13, 0, none⟩)), (14, .int .i64 (sp.1 + ((j : Nat) : Int) : Int)), (15, .pointer (some ⟨O31, 0, none⟩)), (16, .int .i64 (((k : Nat) : Int) : Int)), (59, .int .i64 (((W + 1 : Nat) : Int) : Int)), (60, .int .i64 (((k : Nat) : Int) : Int)), (66, .agg #[.int .i64 (((k : Nat) : Int) : Int), .int .i64 (-(((k : Nat) : Int)) : Int)]), (67, .int .i64 1), (85, .bool true)]) (by kernel_rfl) (fun L => ?_)
              refine cw_t (by kernel_rfl) ?_
              refine cw_exit ?_
              refine qw_block_on (by decide) ?_
              refine qw_then_exit ?_
              refine qw_then_exit ?_
              refine qw_block_on (by decide) ?_
              refine qw_block_on (by decide) ?_
              refine qw_then_exit ?_
              refine qw_then_exit ?_
              refine qw_block_on (by decide) ?_
              refine qw_block_out ?_
              refine qw_then ?_
              refine cw_plain ?_
              refine pl_take (.int .i64 (sp.1 + ((j : Nat) : Int) : Int)) rfl (by kernel_rfl) (by kernel_rfl) (by kernel_rfl) (by kernel_rfl) ?_
              refine pl_take (.int .i64 (sp.1 + ((j + 1 : Nat) : Int) : Int)) rfl (by kernel_rfl) (by kernel_rfl) (by kernel_rfl) (ev_int (ev_wrap (a := sp.1 + ((j : Nat) : Int) + 1) (by kernel_rfl) (by omega) (by omega)) (by omega)) ?_
              refine pl_take (.int .i64 (sp.1 + ((j + 1 : Nat) : Int) : Int)) rfl (by kernel_rfl) (by kernel_rfl) (by kernel_rfl) (by kernel_rfl) ?_
              refine pl_nil ?_
              refine qw_round [2, 3, 5, 6, 9, 10, 14] (ws' := [(2, .int .i64 (mi : Int)), (3, .int .i64 (((W : Nat) : Int) : Int)), (5, .pointer (some ⟨O1, 0, none⟩)), (6, .pointer (some ⟨O5, 0, none⟩)), (9, .pointer (some ⟨O9, 0, none⟩)), (10, .pointer (some ⟨O13, 0, none⟩)), (14, .int .i64 (sp.1 + ((j + 1 : Nat) : Int) : Int))]) (by kernel_rfl) _ ?_ ⟨(j + 1), rfl, rfl, (Nat.le_trans hs28 (Nat.le_trans hs33 (Nat.le_trans hs36 (Nat.le_trans hs38 (Nat.le_trans hs42 hs86))))), hE, hX27, (Swath.NoHit.le hit9 (by rw [Nat.succ_mul]; omega)), by omega⟩
              omega
            ·
              refine pl_take (.bool false) rfl (by kernel_rfl) (by kernel_rfl) (by kernel_rfl) (ev_neq (show _ = Result.ok (Next.value (Value.bool ((-(((k : Nat) : Int)) : Int) == (-(((k : Nat) : Int)) : Int)))) _ from by kernel_rfl) (hc88)) ?_
              refine pl_take (.bool false) rfl (by kernel_rfl) (by kernel_rfl) (by kernel_rfl) (by kernel_rfl) ?_
              refine pl_nil ?_
              refine qw_then ?_
              refine cw_clean [2, 3, 5, 6, 9, 10, 14, 15, 16, 59, 60, 66, 67, 85] (ws' := [(2, .int .i64 (mi : Int)), (3, .int .i64 (((W : Nat) : Int) : Int)), (5, .pointer (some ⟨O1, 0, none⟩)), (6, .pointer (some ⟨O5, 0, none⟩)), (9, .pointer (some ⟨O9, 0, none⟩)), (10, .pointer (some ⟨O13, 0, none⟩)), (14, .int .i64 (sp.1 + ((j : Nat) : Int) : Int)), (15, .pointer (some ⟨O31, 0, none⟩)), (16, .int .i64 (((k : Nat) : Int) : Int)), (59, .int .i64 (((W + 1 : Nat) : Int) : Int)), (60, .int .i64 (((k : Nat) : Int) : Int)), (66, .agg #[.int .i64 (((k : Nat) : Int) : Int), .int .i64 (-(((k : Nat) : Int)) : Int)]), (67, .int .i64 1), (85, .bool false)]) (by kernel_rfl) (fun L => ?_)
              refine cw_f (by kernel_rfl) ?_
              refine cw_skip ?_
              refine qw_block ?_
              refine qw_then ?_
              refine cw_plain ?_
              refine pl_take (.int .i64 2) rfl (by kernel_rfl) (by kernel_rfl) (by kernel_rfl) (by kernel_rfl) ?_
              refine pl_take (.int .i64 2) rfl (by kernel_rfl) (by kernel_rfl) (by kernel_rfl) (by kernel_rfl) ?_
              refine pl_nil ?_
              refine qw_round [2, 3, 5, 6, 9, 10, 14, 15, 16, 59, 60, 66, 67] (ws' := [(2, .int .i64 (mi : Int)), (3, .int .i64 (((W : Nat) : Int) : Int)), (5, .pointer (some ⟨O1, 0, none⟩)), (6, .pointer (some ⟨O5, 0, none⟩)), (9, .pointer (some ⟨O9, 0, none⟩)), (10, .pointer (some ⟨O13, 0, none⟩)), (14, .int .i64 (sp.1 + ((j : Nat) : Int) : Int)), (15, .pointer (some ⟨O31, 0, none⟩)), (16, .int .i64 (((k : Nat) : Int) : Int)), (59, .int .i64 (((W + 1 : Nat) : Int) : Int)), (60, .int .i64 (((k : Nat) : Int) : Int)), (66, .agg #[.int .i64 (((k : Nat) : Int) : Int), .int .i64 (-(((k : Nat) : Int)) : Int)]), (67, .int .i64 2)]) (by kernel_rfl) _ ?_ ⟨2, rfl, rfl, (Nat.le_trans hs42 hs86), hE, hX27, hX37, hX41, (Swath.NoHit.le (hit9) (by omega)), by omega⟩
              omega
          ·
            refine pl_take (.bool false) rfl (by kernel_rfl) (by kernel_rfl) (by kernel_rfl) (ev_neq (show _ = Result.ok (Next.value (Value.bool ((((k : Nat) : Int) : Int) == (((W : Nat) : Int) : Int)))) _ from by kernel_rfl) (hc87)) ?_
            refine pl_take (.bool false) rfl (by kernel_rfl) (by kernel_rfl) (by kernel_rfl) (by kernel_rfl) ?_
            refine pl_skip rfl (by kernel_rfl) (by kernel_rfl) (by kernel_rfl) ?_
            refine pl_skip rfl (by kernel_rfl) (by kernel_rfl) (by kernel_rfl) ?_
            refine pl_skip rfl (by kernel_rfl) (by kernel_rfl) (by kernel_rfl) ?_
            refine pl_skip rfl (by kernel_rfl) (by kernel_rfl) (by kernel_rfl) ?_
            refine pl_take (.bool false) rfl (by kernel_rfl) (by kernel_rfl) (by kernel_rfl) (by kernel_rfl) ?_
            refine pl_nil ?_
            refine qw_then ?_
            refine cw_clean [2, 3, 5, 6, 9, 10, 14, 15, 16, 59, 60, 66, 67, 85] (ws' := [(2, .int .i64 (mi : Int)), (3, .int .i64 (((W : Nat) : Int) : Int)), (5, .pointer (some ⟨O1, 0, none⟩)), (6, .pointer (some ⟨O5, 0, none⟩)), (9, .pointer (some ⟨O9, 0, none⟩)), (10, .pointer (some ⟨O13, 0, none⟩)), (14, .int .i64 (sp.1 + ((j : Nat) : Int) : Int)), (15, .pointer (some ⟨O31, 0, none⟩)), (16, .int .i64 (((k : Nat) : Int) : Int)), (59, .int .i64 (((W + 1 : Nat) : Int) : Int)), (60, .int .i64 (((k : Nat) : Int) : Int)), (66, .agg #[.int .i64 (((k : Nat) : Int) : Int), .int .i64 (-(((k : Nat) : Int)) : Int)]), (67, .int .i64 1), (85, .bool false)]) (by kernel_rfl) (fun L => ?_)
            refine cw_f (by kernel_rfl) ?_
            refine cw_skip ?_
            refine qw_block ?_
            refine qw_then ?_
            refine cw_plain ?_
            refine pl_take (.int .i64 2) rfl (by kernel_rfl) (by kernel_rfl) (by kernel_rfl) (by kernel_rfl) ?_
            refine pl_take (.int .i64 2) rfl (by kernel_rfl) (by kernel_rfl) (by kernel_rfl) (by kernel_rfl) ?_
            refine pl_nil ?_
            refine qw_round [2, 3, 5, 6, 9, 10, 14, 15, 16, 59, 60, 66, 67] (ws' := [(2, .int .i64 (mi : Int)), (3, .int .i64 (((W : Nat) : Int) : Int)), (5, .pointer (some ⟨O1, 0, none⟩)), (6, .pointer (some ⟨O5, 0, none⟩)), (9, .pointer (some ⟨O9, 0, none⟩)), (10, .pointer (some ⟨O13, 0, none⟩)), (14, .int .i64 (sp.1 + ((j : Nat) : Int) : Int)), (15, .pointer (some ⟨O31, 0, none⟩)), (16, .int .i64 (((k : Nat) : Int) : Int)), (59, .int .i64 (((W + 1 : Nat) : Int) : Int)), (60, .int .i64 (((k : Nat) : Int) : Int)), (66, .agg #[.int .i64 (((k : Nat) : Int) : Int), .int .i64 (-(((k : Nat) : Int)) : Int)]), (67, .int .i64 2)]) (by kernel_rfl) _ ?_ ⟨2, rfl, rfl, (Nat.le_trans hs42 hs86), hE, hX27, hX37, hX41, (Swath.NoHit.le (hit9) (by omega)), by omega⟩
            omega
      ·
        refine cw_seq ?_
        refine cw_plain ?_
        refine pl_take (.bool false) rfl (by kernel_rfl) (by kernel_rfl) (by kernel_rfl) (by kernel_rfl) ?_
        refine pl_nil ?_
        refine qw_then ?_
        refine cw_seq ?_
        refine cw_f (by kernel_rfl) ?_
        refine cw_exit ?_
        refine qw_then_exit ?_
        refine qw_then_exit ?_
        refine qw_block_out ?_
        refine qw_block ?_
        refine qw_then ?_
        refine cw_plain ?_
        refine pl_take (.int .i64 (((k + 1 : Nat) : Int) : Int)) rfl (by kernel_rfl) (by kernel_rfl) (by kernel_rfl) (ev_wrap (by kernel_rfl) (by omega) (by omega)) ?_
        refine pl_take (.int .i64 (((k + 1 : Nat) : Int) : Int)) rfl (by kernel_rfl) (by kernel_rfl) (by kernel_rfl) (by kernel_rfl) ?_
        refine pl_nil ?_
        refine qw_round [2, 3, 5, 6, 9, 10, 14, 15, 59, 60] (ws' := [(2, .int .i64 (mi : Int)), (3, .int .i64 (((W : Nat) : Int) : Int)), (5, .pointer (some ⟨O1, 0, none⟩)), (6, .pointer (some ⟨O5, 0, none⟩)), (9, .pointer (some ⟨O9, 0, none⟩)), (10, .pointer (some ⟨O13, 0, none⟩)), (14, .int .i64 (sp.1 + ((j : Nat) : Int) : Int)), (15, .pointer (some ⟨O31, 0, none⟩)), (59, .int .i64 (((W + 1 : Nat) : Int) : Int)), (60, .int .i64 (((k + 1 : Nat) : Int) : Int))]) (by kernel_rfl) _ ?_ ⟨(k + 1), rfl, rfl, (Nat.le_trans hs38 hs42), hE, hX27, hX37, (Swath.NoHit.le hitQ (by omega)), by omega⟩
        omega
    ·
      have hkw : k = W + 1 := by omega
      refine cw_seq ?_
      refine cw_plain ?_
      refine pl_take (.bool false) rfl (by kernel_rfl) (by kernel_rfl) (by kernel_rfl) (ev_ndec (show _ = Result.ok (Next.value (Value.bool (decide ((((k : Nat) : Int) : Int) < (((W + 1 : Nat) : Int) : Int))))) _ from by kernel_rfl) (by omega)) ?_
      refine pl_nil ?_
      refine qw_then ?_
      refine cw_seq ?_
      refine cw_f (by kernel_rfl) ?_
      refine cw_exit ?_
      refine qw_then_exit ?_
      refine qw_then_exit ?_
      refine qw_block_out ?_
      refine qw_block ?_
      refine qw_then ?_
      refine cw_plain ?_
      refine pl_take (.int .i64 (sp.1 + ((j : Nat) : Int) : Int)) rfl (by kernel_rfl) (by kernel_rfl) (by kernel_rfl) (by kernel_rfl) ?_
      refine pl_take (.int .i64 (sp.1 + ((j + 1 : Nat) : Int) : Int)) rfl (by kernel_rfl) (by kernel_rfl) (by kernel_rfl) (ev_int (ev_wrap (a := sp.1 + ((j : Nat) : Int) + 1) (by kernel_rfl) (by omega) (by omega)) (by omega)) ?_
      refine pl_take (.int .i64 (sp.1 + ((j + 1 : Nat) : Int) : Int)) rfl (by kernel_rfl) (by kernel_rfl) (by kernel_rfl) (by kernel_rfl) ?_
      refine pl_nil ?_
      refine qw_round [2, 3, 5, 6, 9, 10, 14] (ws' := [(2, .int .i64 (mi : Int)), (3, .int .i64 (((W : Nat) : Int) : Int)), (5, .pointer (some ⟨O1, 0, none⟩)), (6, .pointer (some ⟨O5, 0, none⟩)), (9, .pointer (some ⟨O9, 0, none⟩)), (10, .pointer (some ⟨O13, 0, none⟩)), (14, .int .i64 (sp.1 + ((j + 1 : Nat) : Int) : Int))]) (by kernel_rfl) _ ?_ ⟨(j + 1), rfl, rfl, (Nat.le_trans hs28 (Nat.le_trans hs33 (Nat.le_trans hs36 hs38))), hE, hX27, (Swath.NoHit.le hitK (by rw [Nat.succ_mul]; omega)), by omega⟩
      omega
  ·
    have hjn : j = Swath.starts sp mi := by omega
    refine cw_seq ?_
    refine cw_seq ?_
    refine cw_plain ?_
    refine pl_take (.int .i64 (sp.1 + ((j : Nat) : Int) : Int)) rfl (by kernel_rfl) (by kernel_rfl) (by kernel_rfl) (by kernel_rfl) ?_
    refine pl_take (.int .i64 (mi : Int)) rfl (by kernel_rfl) (by kernel_rfl) (by kernel_rfl) (by kernel_rfl) ?_
    refine pl_take (.int .i64 ((sp.1 + ((j : Nat) : Int)) + mi : Int)) rfl (by kernel_rfl) (by kernel_rfl) (by kernel_rfl) (ev_wrap (by kernel_rfl) (by omega) (by omega)) ?_
    refine pl_take (.pointer (some ⟨O5, 1, none⟩)) rfl (by kernel_rfl) (by kernel_rfl) (by kernel_rfl) (by kernel_rfl) ?_
    refine pl_take (.int .i64 (sp.2 : Int)) rfl (by kernel_rfl) (by kernel_rfl) (by kernel_rfl) (ex_load rfl (by kernel_rfl) (ld3 ((BoxAt.ext hX27 bO5_1).1))) ?_
    refine pl_take (.bool false) rfl (by kernel_rfl) (by kernel_rfl) (by kernel_rfl) (ev_ndec (show _ = Result.ok (Next.value (Value.bool (decide (((sp.1 + ((j : Nat) : Int)) + mi : Int) ≤ (sp.2 : Int))))) _ from by kernel_rfl) (by omega)) ?_
    refine pl_nil ?_
    refine qw_then ?_
    refine cw_f (by kernel_rfl) ?_
    refine cw_exit ?_
    refine qw_then_exit ?_
    refine qw_then_exit ?_
    refine qw_block_out ?_
    refine qw_then ?_
    refine cw_seq ?_
    refine cw_plain ?_
    refine pl_take (.agg #[.int .i64 0, .int .i64 0]) rfl (by kernel_rfl) (by kernel_rfl) (by kernel_rfl) (by kernel_rfl) ?_
    have bO1_t90 := (BoxAt.ext hX27 bO1_0)
    have bO1_t91 := (BoxAt.ext hX27 bO1_1)
    have bO1_t92 := (BoxAt.ext hX27 bO1_2)
    have bO1_t93 := (BoxAt.ext hX27 bO1_3)
    have bO1_t94 := (BoxAt.ext hX27 bO1_4)
    have bO1_t95 := (BoxAt.ext hX27 bO1_5)
    have bO1_t96 := (BoxAt.ext hX27 bO1_6)
    have bO5_t97 := (BoxAt.ext hX27 bO5_0)
    have bO5_t98 := (BoxAt.ext hX27 bO5_1)
    have bO9_t99 := (BoxAt.ext hX27 bO9_0)
    have bO13_t100 := (BoxAt.ext hX27 bO13_0)
    have bO13_t101 := (BoxAt.ext hX27 bO13_1)
    refine pl_put rfl (by kernel_rfl) (by kernel_rfl) (sn_set2 (O := O13) (j := 0) (v := .int .i64 0) (v' := .int .i64 0) (ex_store (p := .pointer (some ⟨O13, 0, none⟩)) (v := .agg #[.int .i64 0, .int .i64 0]) rfl (by kernel_rfl) (by kernel_rfl) (st26 bO13_t100.1 bO13_t100.2 bO13_t101.1 bO13_t101.2)) bO13_t100 bO13_t101 ?_)
    intro X89 ho hv0 hv1 hk
    replace hE := ho.ext hE (Nat.le_trans (Nat.le_trans hs3 (Nat.le_trans hs7 hs11)) (Nat.le_of_eq hzO13))
    replace bO1_t90 := ho.box (Nat.ne_of_gt (Nat.lt_of_lt_of_le lt4 (Nat.le_trans (Nat.le_trans hs7 hs11) (Nat.le_of_eq hzO13)))) bO1_t90
    replace bO1_t91 := ho.box (Nat.ne_of_gt (Nat.lt_of_lt_of_le lt4 (Nat.le_trans (Nat.le_trans hs7 hs11) (Nat.le_of_eq hzO13)))) bO1_t91
    replace bO1_t92 := ho.box (Nat.ne_of_gt (Nat.lt_of_lt_of_le lt4 (Nat.le_trans (Nat.le_trans hs7 hs11) (Nat.le_of_eq hzO13)))) bO1_t92
    replace bO1_t93 := ho.box (Nat.ne_of_gt (Nat.lt_of_lt_of_le lt4 (Nat.le_trans (Nat.le_trans hs7 hs11) (Nat.le_of_eq hzO13)))) bO1_t93
    replace bO1_t94 := ho.box (Nat.ne_of_gt (Nat.lt_of_lt_of_le lt4 (Nat.le_trans (Nat.le_trans hs7 hs11) (Nat.le_of_eq hzO13)))) bO1_t94
    replace bO1_t95 := ho.box (Nat.ne_of_gt (Nat.lt_of_lt_of_le lt4 (Nat.le_trans (Nat.le_trans hs7 hs11) (Nat.le_of_eq hzO13)))) bO1_t95
    replace bO1_t96 := ho.box (Nat.ne_of_gt (Nat.lt_of_lt_of_le lt4 (Nat.le_trans (Nat.le_trans hs7 hs11) (Nat.le_of_eq hzO13)))) bO1_t96
    replace bO5_t97 := ho.box (Nat.ne_of_gt (Nat.lt_of_lt_of_le lt8 (Nat.le_trans hs11 (Nat.le_of_eq hzO13)))) bO5_t97
    replace bO5_t98 := ho.box (Nat.ne_of_gt (Nat.lt_of_lt_of_le lt8 (Nat.le_trans hs11 (Nat.le_of_eq hzO13)))) bO5_t98
    replace bO9_t99 := ho.box (Nat.ne_of_gt (Nat.lt_of_lt_of_le lt12 (Nat.le_of_eq hzO13))) bO9_t99
    have hs102 : w29.heap.size ≤ X89.heap.size := Nat.le_of_eq ho.size.symm
    clear ho hk bO13_t100 bO13_t101
    have bO13_t100 := hv0; clear hv0
    have bO13_t101 := hv1; clear hv1
    refine pl_take (.int .i64 0) rfl (by kernel_rfl) (by kernel_rfl) (by kernel_rfl) (by kernel_rfl) ?_
    refine pl_take (.bool false) rfl (by kernel_rfl) (by kernel_rfl) (by kernel_rfl) (by kernel_rfl) ?_
    refine pl_take (.int .i64 0) rfl (by kernel_rfl) (by kernel_rfl) (by kernel_rfl) (by kernel_rfl) ?_
    refine pl_nil ?_
    refine qw_then ?_
    refine cw_clean [10, 11, 12, 13] (ws' := [(10, .pointer (some ⟨O13, 0, none⟩)), (11, .int .i64 0), (12, .bool false), (13, .int .i64 0)]) (by kernel_rfl) (fun L => ?_)
    refine cw_ret ?_
    refine qw_scope_ret ?_
    refine qw_ret [.agg #[.int .i64 0, .int .i64 0], .int .i64 0, .bool false, .int .i64 0] rfl ⟨⟨_, by kernel_rfl, res_ld (ld26 (bO13_t100.1) (bO13_t101.1))⟩, (by kernel_rfl), (by kernel_rfl), (by kernel_rfl), trivial⟩ ?_
    have hbest := Swath.best_no (o := o) (sp := sp) (mi := mi) (wd := W) (l := l) (hjn ▸ hitJ)
    exact ⟨by rw [hbest]; rfl, hE⟩
set_option maxRecDepth 1000000 in
set_option maxHeartbeats 4000000 in
theorem Best_n {w1 : World} {o : Orb} {sp : Int × Int} {mi wd : Int} {a : Option Addr} {l : List Int} {n : Nat} {v : Bool} (c : Nat) (w : World) (hA : AA w1 a l n v) (e1 : Ext w1 w) (hno : (Orb.ok o && Swath.spB sp 300 && Globe.inB mi 1 60 && Globe.inB wd 0 4 && v) = false) :
    Calls Try.prog 26 #[.agg #[.int .i64 o.p, .int .i64 o.f, .int .i64 o.lo, .int .i64 o.hi, .int .i64 o.nd, .int .i64 o.tn, .int .i64 o.sl], .agg #[.int .i64 sp.1, .int .i64 sp.2], .int .i64 mi, .int .i64 wd, .agg #[.slice a n c]] w fun e w' => e = .returned (.tuple #[.agg #[.int .i64 0, .int .i64 0], .int .i64 0, .bool false, .int .i64 80]) ∧ Ext w w' := by
  refine calls_cw 89 [(4, .agg #[.slice a n c]), (3, .int .i64 (wd : Int)), (2, .int .i64 (mi : Int)), (1, .agg #[.int .i64 (sp.1 : Int), .int .i64 (sp.2 : Int)]), (0, .agg #[.int .i64 (o.p : Int), .int .i64 (o.f : Int), .int .i64 (o.lo : Int), .int .i64 (o.hi : Int), .int .i64 (o.nd : Int), .int .i64 (o.tn : Int), .int .i64 (o.sl : Int)])] Try.func26 rfl Try.ntmps26 (by kernel_rfl) (by kernel_rfl) (fun L => ?_)
  have hE : Ext w w := Ext.refl w
  refine cw_seq ?_
  refine cw_plain ?_
  refine pl_step rfl (by kernel_rfl) (by kernel_rfl) (by kernel_rfl) (sn_new (us := #[.int .i64 (o.p : Int), .int .i64 (o.f : Int), .int .i64 (o.lo : Int), .int .i64 (o.hi : Int), .int .i64 (o.nd : Int), .int .i64 (o.tn : Int), .int .i64 (o.sl : Int)]) (t := 24) (by kernel_rfl) ?_)
  intro O1 X2 hO hOs hb hbx
  have hzO1 := hO; have hyO1 := hOs; clear hO hOs
  have bO1_0 : BoxAt X2 O1 0 (.int .i64 (o.p : Int)) := hbx 0 _ rfl
  have bO1_1 : BoxAt X2 O1 1 (.int .i64 (o.f : Int)) := hbx 1 _ rfl
  have bO1_2 : BoxAt X2 O1 2 (.int .i64 (o.lo : Int)) := hbx 2 _ rfl
  have bO1_3 : BoxAt X2 O1 3 (.int .i64 (o.hi : Int)) := hbx 3 _ rfl
  have bO1_4 : BoxAt X2 O1 4 (.int .i64 (o.nd : Int)) := hbx 4 _ rfl
  have bO1_5 : BoxAt X2 O1 5 (.int .i64 (o.tn : Int)) := hbx 5 _ rfl
  have bO1_6 : BoxAt X2 O1 6 (.int .i64 (o.sl : Int)) := hbx 6 _ rfl
  clear hbx
  replace hE := hE.trans hb
  have hs3 := hb.size
  clear hb
  have lt4 := bO1_0.lt
  refine pl_step rfl (by kernel_rfl) (by kernel_rfl) (by kernel_rfl) (sn_new (us := #[.int .i64 (sp.1 : Int), .int .i64 (sp.2 : Int)]) (t := 26) (by kernel_rfl) ?_)
  intro O5 X6 hO hOs hb hbx
  have hzO5 := hO; have hyO5 := hOs; clear hO hOs
  have bO5_0 : BoxAt X6 O5 0 (.int .i64 (sp.1 : Int)) := hbx 0 _ rfl
  have bO5_1 : BoxAt X6 O5 1 (.int .i64 (sp.2 : Int)) := hbx 1 _ rfl
  clear hbx
  replace hE := hE.trans hb
  replace bO1_0 := BoxAt.ext hb bO1_0
  replace bO1_1 := BoxAt.ext hb bO1_1
  replace bO1_2 := BoxAt.ext hb bO1_2
  replace bO1_3 := BoxAt.ext hb bO1_3
  replace bO1_4 := BoxAt.ext hb bO1_4
  replace bO1_5 := BoxAt.ext hb bO1_5
  replace bO1_6 := BoxAt.ext hb bO1_6
  have hs7 := hb.size
  clear hb
  have lt8 := bO5_0.lt
  refine pl_step rfl (by kernel_rfl) (by kernel_rfl) (by kernel_rfl) (sn_new (us := #[.slice a n c]) (t := 31) (by kernel_rfl) ?_)
  intro O9 X10 hO hOs hb hbx
  have hzO9 := hO; have hyO9 := hOs; clear hO hOs
  have bO9_0 : BoxAt X10 O9 0 (.slice a n c) := hbx 0 _ rfl
  clear hbx
  replace hE := hE.trans hb
  replace bO1_0 := BoxAt.ext hb bO1_0
  replace bO1_1 := BoxAt.ext hb bO1_1
  replace bO1_2 := BoxAt.ext hb bO1_2
  replace bO1_3 := BoxAt.ext hb bO1_3
  replace bO1_4 := BoxAt.ext hb bO1_4
  replace bO1_5 := BoxAt.ext hb bO1_5
  replace bO1_6 := BoxAt.ext hb bO1_6
  replace bO5_0 := BoxAt.ext hb bO5_0
  replace bO5_1 := BoxAt.ext hb bO5_1
  have hs11 := hb.size
  clear hb
  have lt12 := bO9_0.lt
  refine pl_step rfl (by kernel_rfl) (by kernel_rfl) (by kernel_rfl) (sn_new (us := #[.int .i64 0, .int .i64 0]) (t := 26) (by kernel_rfl) ?_)
  intro O13 X14 hO hOs hb hbx
  have hzO13 := hO; have hyO13 := hOs; clear hO hOs
  have bO13_0 : BoxAt X14 O13 0 (.int .i64 0) := hbx 0 _ rfl
  have bO13_1 : BoxAt X14 O13 1 (.int .i64 0) := hbx 1 _ rfl
  clear hbx
  replace hE := hE.trans hb
  replace bO1_0 := BoxAt.ext hb bO1_0
  replace bO1_1 := BoxAt.ext hb bO1_1
  replace bO1_2 := BoxAt.ext hb bO1_2
  replace bO1_3 := BoxAt.ext hb bO1_3
  replace bO1_4 := BoxAt.ext hb bO1_4
  replace bO1_5 := BoxAt.ext hb bO1_5
  replace bO1_6 := BoxAt.ext hb bO1_6
  replace bO5_0 := BoxAt.ext hb bO5_0
  replace bO5_1 := BoxAt.ext hb bO5_1
  replace bO9_0 := BoxAt.ext hb bO9_0
  have hs15 := hb.size
  clear hb
  have lt16 := bO13_0.lt
  refine pl_take (.int .i64 0) rfl (by kernel_rfl) (by kernel_rfl) (by kernel_rfl) (by kernel_rfl) ?_
  refine pl_take (.bool false) rfl (by kernel_rfl) (by kernel_rfl) (by kernel_rfl) (by kernel_rfl) ?_
  refine pl_take (.int .i64 0) rfl (by kernel_rfl) (by kernel_rfl) (by kernel_rfl) (by kernel_rfl) ?_
  refine pl_nil ?_
  refine qw_then ?_
  refine cw_scope ?_
  refine cw_seq ?_
  refine cw_seq ?_
  refine cw_plain ?_
  refine pl_take (.agg #[.int .i64 (o.p : Int), .int .i64 (o.f : Int), .int .i64 (o.lo : Int), .int .i64 (o.hi : Int), .int .i64 (o.nd : Int), .int .i64 (o.tn : Int), .int .i64 (o.sl : Int)]) rfl (by kernel_rfl) (by kernel_rfl) (by kernel_rfl) (ex_load rfl (by kernel_rfl) (ld24 (bO1_0.1) (bO1_1.1) (bO1_2.1) (bO1_3.1) (bO1_4.1) (bO1_5.1) (bO1_6.1))) ?_
  rcases Bool.eq_false_or_eq_true (Orb.ok o) with hb17 | hb17
  ·
    refine pl_step rfl (by kernel_rfl) (by kernel_rfl) (by kernel_rfl) (sn_call (f := 56) (args := #[.agg #[.int .i64 (o.p : Int), .int .i64 (o.f : Int), .int .i64 (o.lo : Int), .int .i64 (o.hi : Int), .int .i64 (o.nd : Int), .int .i64 (o.tn : Int), .int .i64 (o.sl : Int)]]) (by kernel_rfl) ((oValid_r (r := true) _ (hb17)).mono ?_))
    rintro e w18 ⟨rfl, hb⟩
    replace hE := hE.trans hb
    replace bO1_0 := BoxAt.ext hb bO1_0
    replace bO1_1 := BoxAt.ext hb bO1_1
    replace bO1_2 := BoxAt.ext hb bO1_2
    replace bO1_3 := BoxAt.ext hb bO1_3
    replace bO1_4 := BoxAt.ext hb bO1_4
    replace bO1_5 := BoxAt.ext hb bO1_5
    replace bO1_6 := BoxAt.ext hb bO1_6
    replace bO5_0 := BoxAt.ext hb bO5_0
    replace bO5_1 := BoxAt.ext hb bO5_1
    replace bO9_0 := BoxAt.ext hb bO9_0
    replace bO13_0 := BoxAt.ext hb bO13_0
    replace bO13_1 := BoxAt.ext hb bO13_1
    have hs19 := hb.size
    clear hb
    refine ⟨_, rfl, ?_⟩
    refine pl_take (.bool false) rfl (by kernel_rfl) (by kernel_rfl) (by kernel_rfl) (by kernel_rfl) ?_
    refine pl_take (.bool false) rfl (by kernel_rfl) (by kernel_rfl) (by kernel_rfl) (by kernel_rfl) ?_
    refine pl_take (.agg #[.int .i64 (sp.1 : Int), .int .i64 (sp.2 : Int)]) rfl (by kernel_rfl) (by kernel_rfl) (by kernel_rfl) (ex_load rfl (by kernel_rfl) (ld26 (bO5_0.1) (bO5_1.1))) ?_
    rcases Bool.eq_false_or_eq_true (Swath.spB sp 300) with hb20 | hb20
    ·
      refine pl_step rfl (by kernel_rfl) (by kernel_rfl) (by kernel_rfl) (sn_call (f := 57) (args := #[.agg #[.int .i64 (sp.1 : Int), .int .i64 (sp.2 : Int)], .int .i64 300]) (by kernel_rfl) ((isSpell_r (r := true) sp 300 _ (hb20)).mono ?_))
      rintro e w21 ⟨rfl, hb⟩
      replace hE := hE.trans hb
      replace bO1_0 := BoxAt.ext hb bO1_0
      replace bO1_1 := BoxAt.ext hb bO1_1
      replace bO1_2 := BoxAt.ext hb bO1_2
      replace bO1_3 := BoxAt.ext hb bO1_3
      replace bO1_4 := BoxAt.ext hb bO1_4
      replace bO1_5 := BoxAt.ext hb bO1_5
      replace bO1_6 := BoxAt.ext hb bO1_6
      replace bO5_0 := BoxAt.ext hb bO5_0
      replace bO5_1 := BoxAt.ext hb bO5_1
      replace bO9_0 := BoxAt.ext hb bO9_0
      replace bO13_0 := BoxAt.ext hb bO13_0
      replace bO13_1 := BoxAt.ext hb bO13_1
      have hs22 := hb.size
      clear hb
      refine ⟨_, rfl, ?_⟩
      refine pl_take (.bool false) rfl (by kernel_rfl) (by kernel_rfl) (by kernel_rfl) (by kernel_rfl) ?_
      refine pl_take (.bool false) rfl (by kernel_rfl) (by kernel_rfl) (by kernel_rfl) (by kernel_rfl) ?_
      refine pl_take (.bool false) rfl (by kernel_rfl) (by kernel_rfl) (by kernel_rfl) (by kernel_rfl) ?_
      refine pl_take (.int .i64 (mi : Int)) rfl (by kernel_rfl) (by kernel_rfl) (by kernel_rfl) (by kernel_rfl) ?_
      rcases Bool.eq_false_or_eq_true (Globe.inB mi 1 60) with hb23 | hb23
      ·
        have hq24 := Globe.inB_t.1 hb23
        refine pl_step rfl (by kernel_rfl) (by kernel_rfl) (by kernel_rfl) (sn_call (f := 43) (args := #[.int .i64 (mi : Int), .int .i64 1, .int .i64 60]) (by kernel_rfl) ((swath_isIn_r (r := true) mi 1 60 _ (hb23)).mono ?_))
        rintro e w25 ⟨rfl, hb⟩
        replace hE := hE.trans hb
        replace bO1_0 := BoxAt.ext hb bO1_0
        replace bO1_1 := BoxAt.ext hb bO1_1
        replace bO1_2 := BoxAt.ext hb bO1_2
        replace bO1_3 := BoxAt.ext hb bO1_3
        replace bO1_4 := BoxAt.ext hb bO1_4
        replace bO1_5 := BoxAt.ext hb bO1_5
        replace bO1_6 := BoxAt.ext hb bO1_6
        replace bO5_0 := BoxAt.ext hb bO5_0
        replace bO5_1 := BoxAt.ext hb bO5_1
        replace bO9_0 := BoxAt.ext hb bO9_0
        replace bO13_0 := BoxAt.ext hb bO13_0
        replace bO13_1 := BoxAt.ext hb bO13_1
        have hs26 := hb.size
        clear hb
        refine ⟨_, rfl, ?_⟩
        refine pl_take (.bool false) rfl (by kernel_rfl) (by kernel_rfl) (by kernel_rfl) (by kernel_rfl) ?_
        refine pl_take (.bool false) rfl (by kernel_rfl) (by kernel_rfl) (by kernel_rfl) (by kernel_rfl) ?_
        refine pl_take (.bool false) rfl (by kernel_rfl) (by kernel_rfl) (by kernel_rfl) (by kernel_rfl) ?_
        refine pl_take (.int .i64 (wd : Int)) rfl (by kernel_rfl) (by kernel_rfl) (by kernel_rfl) (by kernel_rfl) ?_
        rcases Bool.eq_false_or_eq_true (Globe.inB wd 0 4) with hb27 | hb27
        ·
          have hq28 := Globe.inB_t.1 hb27
          refine pl_step rfl (by kernel_rfl) (by kernel_rfl) (by kernel_rfl) (sn_call (f := 43) (args := #[.int .i64 (wd : Int), .int .i64 0, .int .i64 4]) (by kernel_rfl) ((swath_isIn_r (r := true) wd 0 4 _ (hb27)).mono ?_))
          rintro e w29 ⟨rfl, hb⟩
          replace hE := hE.trans hb
          replace bO1_0 := BoxAt.ext hb bO1_0
          replace bO1_1 := BoxAt.ext hb bO1_1
          replace bO1_2 := BoxAt.ext hb bO1_2
          replace bO1_3 := BoxAt.ext hb bO1_3
          replace bO1_4 := BoxAt.ext hb bO1_4
          replace bO1_5 := BoxAt.ext hb bO1_5
          replace bO1_6 := BoxAt.ext hb bO1_6
          replace bO5_0 := BoxAt.ext hb bO5_0
          replace bO5_1 := BoxAt.ext hb bO5_1
          replace bO9_0 := BoxAt.ext hb bO9_0
          replace bO13_0 := BoxAt.ext hb bO13_0
          replace bO13_1 := BoxAt.ext hb bO13_1
          have hs30 := hb.size
          clear hb
          refine ⟨_, rfl, ?_⟩
          refine pl_take (.bool false) rfl (by kernel_rfl) (by kernel_rfl) (by kernel_rfl) (by kernel_rfl) ?_
          refine pl_take (.bool false) rfl (by kernel_rfl) (by kernel_rfl) (by kernel_rfl) (by kernel_rfl) ?_
          refine pl_take (.bool false) rfl (by kernel_rfl) (by kernel_rfl) (by kernel_rfl) (by kernel_rfl) ?_
          refine pl_take (.agg #[.slice a n c]) rfl (by kernel_rfl) (by kernel_rfl) (by kernel_rfl) (ex_load rfl (by kernel_rfl) (ld31 (bO9_0.1))) ?_
          rcases Bool.eq_false_or_eq_true (v) with hb31 | hb31
          ·
            refine pl_step rfl (by kernel_rfl) (by kernel_rfl) (by kernel_rfl) (sn_call (f := 33) (args := #[.agg #[.slice a n c]]) (by kernel_rfl) ((Valid_e9 (r := true) _ _ hA (e1.trans hE) hb31).mono ?_))
            rintro e w32 ⟨rfl, hb⟩
            replace hE := hE.trans hb
            replace bO1_0 := BoxAt.ext hb bO1_0
            replace bO1_1 := BoxAt.ext hb bO1_1
            replace bO1_2 := BoxAt.ext hb bO1_2
            replace bO1_3 := BoxAt.ext hb bO1_3
            replace bO1_4 := BoxAt.ext hb bO1_4
            replace bO1_5 := BoxAt.ext hb bO1_5
            replace bO1_6 := BoxAt.ext hb bO1_6
            replace bO5_0 := BoxAt.ext hb bO5_0
            replace bO5_1 := BoxAt.ext hb bO5_1
            replace bO9_0 := BoxAt.ext hb bO9_0
            replace bO13_0 := BoxAt.ext hb bO13_0
            replace bO13_1 := BoxAt.ext hb bO13_1
            have hs33 := hb.size
            clear hb
            refine ⟨_, rfl, ?_⟩
            refine pl_take (.bool false) rfl (by kernel_rfl) (by kernel_rfl) (by kernel_rfl) (by kernel_rfl) ?_
            refine pl_take (.bool false) rfl (by kernel_rfl) (by kernel_rfl) (by kernel_rfl) (by kernel_rfl) ?_
            refine pl_nil ?_
            refine qw_then ?_
            refine cw_clean [2, 3, 5, 6, 9, 10, 41] (ws' := [(2, .int .i64 (mi : Int)), (3, .int .i64 (wd : Int)), (5, .pointer (some ⟨O1, 0, none⟩)), (6, .pointer (some ⟨O5, 0, none⟩)), (9, .pointer (some ⟨O9, 0, none⟩)), (10, .pointer (some ⟨O13, 0, none⟩)), (41, .bool false)]) (by kernel_rfl) (fun L => ?_)
            refine cw_f (by kernel_rfl) ?_
            refine cw_skip ?_
            refine qw_then ?_
            refine cw_seq ?_
            refine cw_label ?_
            refine qw_then ?_
            refine cw_seq ?_
            refine cw_seq ?_
            exfalso; simp [hb17, hb20, hb23, hb27, hb31] at hno
          ·
            refine pl_step rfl (by kernel_rfl) (by kernel_rfl) (by kernel_rfl) (sn_call (f := 33) (args := #[.agg #[.slice a n c]]) (by kernel_rfl) ((Valid_e9 (r := false) _ _ hA (e1.trans hE) hb31).mono ?_))
            rintro e w34 ⟨rfl, hb⟩
            replace hE := hE.trans hb
            replace bO1_0 := BoxAt.ext hb bO1_0
            replace bO1_1 := BoxAt.ext hb bO1_1
            replace bO1_2 := BoxAt.ext hb bO1_2
            replace bO1_3 := BoxAt.ext hb bO1_3
            replace bO1_4 := BoxAt.ext hb bO1_4
            replace bO1_5 := BoxAt.ext hb bO1_5
            replace bO1_6 := BoxAt.ext hb bO1_6
            replace bO5_0 := BoxAt.ext hb bO5_0
            replace bO5_1 := BoxAt.ext hb bO5_1
            replace bO9_0 := BoxAt.ext hb bO9_0
            replace bO13_0 := BoxAt.ext hb bO13_0
            replace bO13_1 := BoxAt.ext hb bO13_1
            have hs35 := hb.size
            clear hb
            refine ⟨_, rfl, ?_⟩
            refine pl_take (.bool true) rfl (by kernel_rfl) (by kernel_rfl) (by kernel_rfl) (by kernel_rfl) ?_
            refine pl_take (.bool true) rfl (by kernel_rfl) (by kernel_rfl) (by kernel_rfl) (by kernel_rfl) ?_
            refine pl_nil ?_
            refine qw_then ?_
            refine cw_clean [2, 3, 5, 6, 9, 10, 41] (ws' := [(2, .int .i64 (mi : Int)), (3, .int .i64 (wd : Int)), (5, .pointer (some ⟨O1, 0, none⟩)), (6, .pointer (some ⟨O5, 0, none⟩)), (9, .pointer (some ⟨O9, 0, none⟩)), (10, .pointer (some ⟨O13, 0, none⟩)), (41, .bool true)]) (by kernel_rfl) (fun L => ?_)
            refine cw_t (by kernel_rfl) ?_
            refine cw_seq ?_
            refine cw_plain ?_
            refine pl_take (.agg #[.int .i64 0, .int .i64 0]) rfl (by kernel_rfl) (by kernel_rfl) (by kernel_rfl) (by kernel_rfl) ?_
            refine pl_put rfl (by kernel_rfl) (by kernel_rfl) (sn_set2 (O := O13) (j := 0) (v := .int .i64 0) (v' := .int .i64 0) (ex_store (p := .pointer (some ⟨O13, 0, none⟩)) (v := .agg #[.int .i64 0, .int .i64 0]) rfl (by kernel_rfl) (by kernel_rfl) (st26 bO13_0.1 bO13_0.2 bO13_1.1 bO13_1.2)) bO13_0 bO13_1 ?_)
            intro X36 ho hv0 hv1 hk
            replace hE := ho.ext hE (Nat.le_trans (Nat.le_trans hs3 (Nat.le_trans hs7 hs11)) (Nat.le_of_eq hzO13))
            replace bO1_0 := ho.box (Nat.ne_of_gt (Nat.lt_of_lt_of_le lt4 (Nat.le_trans (Nat.le_trans hs7 hs11) (Nat.le_of_eq hzO13)))) bO1_0
            replace bO1_1 := ho.box (Nat.ne_of_gt (Nat.lt_of_lt_of_le lt4 (Nat.le_trans (Nat.le_trans hs7 hs11) (Nat.le_of_eq hzO13)))) bO1_1
            replace bO1_2 := ho.box (Nat.ne_of_gt (Nat.lt_of_lt_of_le lt4 (Nat.le_trans (Nat.le_trans hs7 hs11) (Nat.le_of_eq hzO13)))) bO1_2
            replace bO1_3 := ho.box (Nat.ne_of_gt (Nat.lt_of_lt_of_le lt4 (Nat.le_trans (Nat.le_trans hs7 hs11) (Nat.le_of_eq hzO13)))) bO1_3
            replace bO1_4 := ho.box (Nat.ne_of_gt (Nat.lt_of_lt_of_le lt4 (Nat.le_trans (Nat.le_trans hs7 hs11) (Nat.le_of_eq hzO13)))) bO1_4
            replace bO1_5 := ho.box (Nat.ne_of_gt (Nat.lt_of_lt_of_le lt4 (Nat.le_trans (Nat.le_trans hs7 hs11) (Nat.le_of_eq hzO13)))) bO1_5
            replace bO1_6 := ho.box (Nat.ne_of_gt (Nat.lt_of_lt_of_le lt4 (Nat.le_trans (Nat.le_trans hs7 hs11) (Nat.le_of_eq hzO13)))) bO1_6
            replace bO5_0 := ho.box (Nat.ne_of_gt (Nat.lt_of_lt_of_le lt8 (Nat.le_trans hs11 (Nat.le_of_eq hzO13)))) bO5_0
            replace bO5_1 := ho.box (Nat.ne_of_gt (Nat.lt_of_lt_of_le lt8 (Nat.le_trans hs11 (Nat.le_of_eq hzO13)))) bO5_1
            replace bO9_0 := ho.box (Nat.ne_of_gt (Nat.lt_of_lt_of_le lt12 (Nat.le_of_eq hzO13))) bO9_0
            have hs37 : w34.heap.size ≤ X36.heap.size := Nat.le_of_eq ho.size.symm
            clear ho hk bO13_0 bO13_1
            have bO13_0 := hv0; clear hv0
            have bO13_1 := hv1; clear hv1
            refine pl_take (.int .i64 0) rfl (by kernel_rfl) (by kernel_rfl) (by kernel_rfl) (by kernel_rfl) ?_
            refine pl_take (.bool false) rfl (by kernel_rfl) (by kernel_rfl) (by kernel_rfl) (by kernel_rfl) ?_
            refine pl_take (.int .i64 80) rfl (by kernel_rfl) (by kernel_rfl) (by kernel_rfl) (by kernel_rfl) ?_
            refine pl_nil ?_
            refine qw_then ?_
            refine cw_ret ?_
            refine qw_then_ret ?_
            refine qw_scope_ret ?_
            refine qw_ret [.agg #[.int .i64 0, .int .i64 0], .int .i64 0, .bool false, .int .i64 80] rfl ⟨⟨_, by kernel_rfl, res_ld (ld26 (bO13_0.1) (bO13_1.1))⟩, (by kernel_rfl), (by kernel_rfl), (by kernel_rfl), trivial⟩ ?_
            exact ⟨rfl, hE⟩
        ·
          refine pl_step rfl (by kernel_rfl) (by kernel_rfl) (by kernel_rfl) (sn_call (f := 43) (args := #[.int .i64 (wd : Int), .int .i64 0, .int .i64 4]) (by kernel_rfl) ((swath_isIn_r (r := false) wd 0 4 _ (hb27)).mono ?_))
          rintro e w38 ⟨rfl, hb⟩
          replace hE := hE.trans hb
          replace bO1_0 := BoxAt.ext hb bO1_0
          replace bO1_1 := BoxAt.ext hb bO1_1
          replace bO1_2 := BoxAt.ext hb bO1_2
          replace bO1_3 := BoxAt.ext hb bO1_3
          replace bO1_4 := BoxAt.ext hb bO1_4
          replace bO1_5 := BoxAt.ext hb bO1_5
          replace bO1_6 := BoxAt.ext hb bO1_6
          replace bO5_0 := BoxAt.ext hb bO5_0
          replace bO5_1 := BoxAt.ext hb bO5_1
          replace bO9_0 := BoxAt.ext hb bO9_0
          replace bO13_0 := BoxAt.ext hb bO13_0
          replace bO13_1 := BoxAt.ext hb bO13_1
          have hs39 := hb.size
          clear hb
          refine ⟨_, rfl, ?_⟩
          refine pl_take (.bool true) rfl (by kernel_rfl) (by kernel_rfl) (by kernel_rfl) (by kernel_rfl) ?_
          refine pl_take (.bool true) rfl (by kernel_rfl) (by kernel_rfl) (by kernel_rfl) (by kernel_rfl) ?_
          refine pl_take (.bool true) rfl (by kernel_rfl) (by kernel_rfl) (by kernel_rfl) (by kernel_rfl) ?_
          refine pl_skip rfl (by kernel_rfl) (by kernel_rfl) (by kernel_rfl) ?_
          refine pl_skip rfl (by kernel_rfl) (by kernel_rfl) (by kernel_rfl) ?_
          refine pl_skip rfl (by kernel_rfl) (by kernel_rfl) (by kernel_rfl) ?_
          refine pl_take (.bool true) rfl (by kernel_rfl) (by kernel_rfl) (by kernel_rfl) (by kernel_rfl) ?_
          refine pl_nil ?_
          refine qw_then ?_
          refine cw_clean [2, 3, 5, 6, 9, 10, 41] (ws' := [(2, .int .i64 (mi : Int)), (3, .int .i64 (wd : Int)), (5, .pointer (some ⟨O1, 0, none⟩)), (6, .pointer (some ⟨O5, 0, none⟩)), (9, .pointer (some ⟨O9, 0, none⟩)), (10, .pointer (some ⟨O13, 0, none⟩)), (41, .bool true)]) (by kernel_rfl) (fun L => ?_)
          refine cw_t (by kernel_rfl) ?_
          refine cw_seq ?_
          refine cw_plain ?_
          refine pl_take (.agg #[.int .i64 0, .int .i64 0]) rfl (by kernel_rfl) (by kernel_rfl) (by kernel_rfl) (by kernel_rfl) ?_
          refine pl_put rfl (by kernel_rfl) (by kernel_rfl) (sn_set2 (O := O13) (j := 0) (v := .int .i64 0) (v' := .int .i64 0) (ex_store (p := .pointer (some ⟨O13, 0, none⟩)) (v := .agg #[.int .i64 0, .int .i64 0]) rfl (by kernel_rfl) (by kernel_rfl) (st26 bO13_0.1 bO13_0.2 bO13_1.1 bO13_1.2)) bO13_0 bO13_1 ?_)
          intro X40 ho hv0 hv1 hk
          replace hE := ho.ext hE (Nat.le_trans (Nat.le_trans hs3 (Nat.le_trans hs7 hs11)) (Nat.le_of_eq hzO13))
          replace bO1_0 := ho.box (Nat.ne_of_gt (Nat.lt_of_lt_of_le lt4 (Nat.le_trans (Nat.le_trans hs7 hs11) (Nat.le_of_eq hzO13)))) bO1_0
          replace bO1_1 := ho.box (Nat.ne_of_gt (Nat.lt_of_lt_of_le lt4 (Nat.le_trans (Nat.le_trans hs7 hs11) (Nat.le_of_eq hzO13)))) bO1_1
          replace bO1_2 := ho.box (Nat.ne_of_gt (Nat.lt_of_lt_of_le lt4 (Nat.le_trans (Nat.le_trans hs7 hs11) (Nat.le_of_eq hzO13)))) bO1_2
          replace bO1_3 := ho.box (Nat.ne_of_gt (Nat.lt_of_lt_of_le lt4 (Nat.le_trans (Nat.le_trans hs7 hs11) (Nat.le_of_eq hzO13)))) bO1_3
          replace bO1_4 := ho.box (Nat.ne_of_gt (Nat.lt_of_lt_of_le lt4 (Nat.le_trans (Nat.le_trans hs7 hs11) (Nat.le_of_eq hzO13)))) bO1_4
          replace bO1_5 := ho.box (Nat.ne_of_gt (Nat.lt_of_lt_of_le lt4 (Nat.le_trans (Nat.le_trans hs7 hs11) (Nat.le_of_eq hzO13)))) bO1_5
          replace bO1_6 := ho.box (Nat.ne_of_gt (Nat.lt_of_lt_of_le lt4 (Nat.le_trans (Nat.le_trans hs7 hs11) (Nat.le_of_eq hzO13)))) bO1_6
          replace bO5_0 := ho.box (Nat.ne_of_gt (Nat.lt_of_lt_of_le lt8 (Nat.le_trans hs11 (Nat.le_of_eq hzO13)))) bO5_0
          replace bO5_1 := ho.box (Nat.ne_of_gt (Nat.lt_of_lt_of_le lt8 (Nat.le_trans hs11 (Nat.le_of_eq hzO13)))) bO5_1
          replace bO9_0 := ho.box (Nat.ne_of_gt (Nat.lt_of_lt_of_le lt12 (Nat.le_of_eq hzO13))) bO9_0
          have hs41 : w38.heap.size ≤ X40.heap.size := Nat.le_of_eq ho.size.symm
          clear ho hk bO13_0 bO13_1
          have bO13_0 := hv0; clear hv0
          have bO13_1 := hv1; clear hv1
          refine pl_take (.int .i64 0) rfl (by kernel_rfl) (by kernel_rfl) (by kernel_rfl) (by kernel_rfl) ?_
          refine pl_take (.bool false) rfl (by kernel_rfl) (by kernel_rfl) (by kernel_rfl) (by kernel_rfl) ?_
          refine pl_take (.int .i64 80) rfl (by kernel_rfl) (by kernel_rfl) (by kernel_rfl) (by kernel_rfl) ?_
          refine pl_nil ?_
          refine qw_then ?_
          refine cw_ret ?_
          refine qw_then_ret ?_
          refine qw_scope_ret ?_
          refine qw_ret [.agg #[.int .i64 0, .int .i64 0], .int .i64 0, .bool false, .int .i64 80] rfl ⟨⟨_, by kernel_rfl, res_ld (ld26 (bO13_0.1) (bO13_1.1))⟩, (by kernel_rfl), (by kernel_rfl), (by kernel_rfl), trivial⟩ ?_
          exact ⟨rfl, hE⟩
      ·
        refine pl_step rfl (by kernel_rfl) (by kernel_rfl) (by kernel_rfl) (sn_call (f := 43) (args := #[.int .i64 (mi : Int), .int .i64 1, .int .i64 60]) (by kernel_rfl) ((swath_isIn_r (r := false) mi 1 60 _ (hb23)).mono ?_))
        rintro e w42 ⟨rfl, hb⟩
        replace hE := hE.trans hb
        replace bO1_0 := BoxAt.ext hb bO1_0
        replace bO1_1 := BoxAt.ext hb bO1_1
        replace bO1_2 := BoxAt.ext hb bO1_2
        replace bO1_3 := BoxAt.ext hb bO1_3
        replace bO1_4 := BoxAt.ext hb bO1_4
        replace bO1_5 := BoxAt.ext hb bO1_5
        replace bO1_6 := BoxAt.ext hb bO1_6
        replace bO5_0 := BoxAt.ext hb bO5_0
        replace bO5_1 := BoxAt.ext hb bO5_1
        replace bO9_0 := BoxAt.ext hb bO9_0
        replace bO13_0 := BoxAt.ext hb bO13_0
        replace bO13_1 := BoxAt.ext hb bO13_1
        have hs43 := hb.size
        clear hb
        refine ⟨_, rfl, ?_⟩
        refine pl_take (.bool true) rfl (by kernel_rfl) (by kernel_rfl) (by kernel_rfl) (by kernel_rfl) ?_
        refine pl_take (.bool true) rfl (by kernel_rfl) (by kernel_rfl) (by kernel_rfl) (by kernel_rfl) ?_
        refine pl_take (.bool true) rfl (by kernel_rfl) (by kernel_rfl) (by kernel_rfl) (by kernel_rfl) ?_
        refine pl_skip rfl (by kernel_rfl) (by kernel_rfl) (by kernel_rfl) ?_
        refine pl_skip rfl (by kernel_rfl) (by kernel_rfl) (by kernel_rfl) ?_
        refine pl_skip rfl (by kernel_rfl) (by kernel_rfl) (by kernel_rfl) ?_
        refine pl_take (.bool true) rfl (by kernel_rfl) (by kernel_rfl) (by kernel_rfl) (by kernel_rfl) ?_
        refine pl_take (.bool true) rfl (by kernel_rfl) (by kernel_rfl) (by kernel_rfl) (by kernel_rfl) ?_
        refine pl_skip rfl (by kernel_rfl) (by kernel_rfl) (by kernel_rfl) ?_
        refine pl_skip rfl (by kernel_rfl) (by kernel_rfl) (by kernel_rfl) ?_
        refine pl_skip rfl (by kernel_rfl) (by kernel_rfl) (by kernel_rfl) ?_
        refine pl_take (.bool true) rfl (by kernel_rfl) (by kernel_rfl) (by kernel_rfl) (by kernel_rfl) ?_
        refine pl_nil ?_
        refine qw_then ?_
        refine cw_clean [2, 3, 5, 6, 9, 10, 41] (ws' := [(2, .int .i64 (mi : Int)), (3, .int .i64 (wd : Int)), (5, .pointer (some ⟨O1, 0, none⟩)), (6, .pointer (some ⟨O5, 0, none⟩)), (9, .pointer (some ⟨O9, 0, none⟩)), (10, .pointer (some ⟨O13, 0, none⟩)), (41, .bool true)]) (by kernel_rfl) (fun L => ?_)
        refine cw_t (by kernel_rfl) ?_
        refine cw_seq ?_
        refine cw_plain ?_
        refine pl_take (.agg #[.int .i64 0, .int .i64 0]) rfl (by kernel_rfl) (by kernel_rfl) (by kernel_rfl) (by kernel_rfl) ?_
        refine pl_put rfl (by kernel_rfl) (by kernel_rfl) (sn_set2 (O := O13) (j := 0) (v := .int .i64 0) (v' := .int .i64 0) (ex_store (p := .pointer (some ⟨O13, 0, none⟩)) (v := .agg #[.int .i64 0, .int .i64 0]) rfl (by kernel_rfl) (by kernel_rfl) (st26 bO13_0.1 bO13_0.2 bO13_1.1 bO13_1.2)) bO13_0 bO13_1 ?_)
        intro X44 ho hv0 hv1 hk
        replace hE := ho.ext hE (Nat.le_trans (Nat.le_trans hs3 (Nat.le_trans hs7 hs11)) (Nat.le_of_eq hzO13))
        replace bO1_0 := ho.box (Nat.ne_of_gt (Nat.lt_of_lt_of_le lt4 (Nat.le_trans (Nat.le_trans hs7 hs11) (Nat.le_of_eq hzO13)))) bO1_0
        replace bO1_1 := ho.box (Nat.ne_of_gt (Nat.lt_of_lt_of_le lt4 (Nat.le_trans (Nat.le_trans hs7 hs11) (Nat.le_of_eq hzO13)))) bO1_1
        replace bO1_2 := ho.box (Nat.ne_of_gt (Nat.lt_of_lt_of_le lt4 (Nat.le_trans (Nat.le_trans hs7 hs11) (Nat.le_of_eq hzO13)))) bO1_2
        replace bO1_3 := ho.box (Nat.ne_of_gt (Nat.lt_of_lt_of_le lt4 (Nat.le_trans (Nat.le_trans hs7 hs11) (Nat.le_of_eq hzO13)))) bO1_3
        replace bO1_4 := ho.box (Nat.ne_of_gt (Nat.lt_of_lt_of_le lt4 (Nat.le_trans (Nat.le_trans hs7 hs11) (Nat.le_of_eq hzO13)))) bO1_4
        replace bO1_5 := ho.box (Nat.ne_of_gt (Nat.lt_of_lt_of_le lt4 (Nat.le_trans (Nat.le_trans hs7 hs11) (Nat.le_of_eq hzO13)))) bO1_5
        replace bO1_6 := ho.box (Nat.ne_of_gt (Nat.lt_of_lt_of_le lt4 (Nat.le_trans (Nat.le_trans hs7 hs11) (Nat.le_of_eq hzO13)))) bO1_6
        replace bO5_0 := ho.box (Nat.ne_of_gt (Nat.lt_of_lt_of_le lt8 (Nat.le_trans hs11 (Nat.le_of_eq hzO13)))) bO5_0
        replace bO5_1 := ho.box (Nat.ne_of_gt (Nat.lt_of_lt_of_le lt8 (Nat.le_trans hs11 (Nat.le_of_eq hzO13)))) bO5_1
        replace bO9_0 := ho.box (Nat.ne_of_gt (Nat.lt_of_lt_of_le lt12 (Nat.le_of_eq hzO13))) bO9_0
        have hs45 : w42.heap.size ≤ X44.heap.size := Nat.le_of_eq ho.size.symm
        clear ho hk bO13_0 bO13_1
        have bO13_0 := hv0; clear hv0
        have bO13_1 := hv1; clear hv1
        refine pl_take (.int .i64 0) rfl (by kernel_rfl) (by kernel_rfl) (by kernel_rfl) (by kernel_rfl) ?_
        refine pl_take (.bool false) rfl (by kernel_rfl) (by kernel_rfl) (by kernel_rfl) (by kernel_rfl) ?_
        refine pl_take (.int .i64 80) rfl (by kernel_rfl) (by kernel_rfl) (by kernel_rfl) (by kernel_rfl) ?_
        refine pl_nil ?_
        refine qw_then ?_
        refine cw_ret ?_
        refine qw_then_ret ?_
        refine qw_scope_ret ?_
        refine qw_ret [.agg #[.int .i64 0, .int .i64 0], .int .i64 0, .bool false, .int .i64 80] rfl ⟨⟨_, by kernel_rfl, res_ld (ld26 (bO13_0.1) (bO13_1.1))⟩, (by kernel_rfl), (by kernel_rfl), (by kernel_rfl), trivial⟩ ?_
        exact ⟨rfl, hE⟩
    ·
      refine pl_step rfl (by kernel_rfl) (by kernel_rfl) (by kernel_rfl) (sn_call (f := 57) (args := #[.agg #[.int .i64 (sp.1 : Int), .int .i64 (sp.2 : Int)], .int .i64 300]) (by kernel_rfl) ((isSpell_r (r := false) sp 300 _ (hb20)).mono ?_))
      rintro e w46 ⟨rfl, hb⟩
      replace hE := hE.trans hb
      replace bO1_0 := BoxAt.ext hb bO1_0
      replace bO1_1 := BoxAt.ext hb bO1_1
      replace bO1_2 := BoxAt.ext hb bO1_2
      replace bO1_3 := BoxAt.ext hb bO1_3
      replace bO1_4 := BoxAt.ext hb bO1_4
      replace bO1_5 := BoxAt.ext hb bO1_5
      replace bO1_6 := BoxAt.ext hb bO1_6
      replace bO5_0 := BoxAt.ext hb bO5_0
      replace bO5_1 := BoxAt.ext hb bO5_1
      replace bO9_0 := BoxAt.ext hb bO9_0
      replace bO13_0 := BoxAt.ext hb bO13_0
      replace bO13_1 := BoxAt.ext hb bO13_1
      have hs47 := hb.size
      clear hb
      refine ⟨_, rfl, ?_⟩
      refine pl_take (.bool true) rfl (by kernel_rfl) (by kernel_rfl) (by kernel_rfl) (by kernel_rfl) ?_
      refine pl_take (.bool true) rfl (by kernel_rfl) (by kernel_rfl) (by kernel_rfl) (by kernel_rfl) ?_
      refine pl_take (.bool true) rfl (by kernel_rfl) (by kernel_rfl) (by kernel_rfl) (by kernel_rfl) ?_
      refine pl_skip rfl (by kernel_rfl) (by kernel_rfl) (by kernel_rfl) ?_
      refine pl_skip rfl (by kernel_rfl) (by kernel_rfl) (by kernel_rfl) ?_
      refine pl_skip rfl (by kernel_rfl) (by kernel_rfl) (by kernel_rfl) ?_
      refine pl_take (.bool true) rfl (by kernel_rfl) (by kernel_rfl) (by kernel_rfl) (by kernel_rfl) ?_
      refine pl_take (.bool true) rfl (by kernel_rfl) (by kernel_rfl) (by kernel_rfl) (by kernel_rfl) ?_
      refine pl_skip rfl (by kernel_rfl) (by kernel_rfl) (by kernel_rfl) ?_
      refine pl_skip rfl (by kernel_rfl) (by kernel_rfl) (by kernel_rfl) ?_
      refine pl_skip rfl (by kernel_rfl) (by kernel_rfl) (by kernel_rfl) ?_
      refine pl_take (.bool true) rfl (by kernel_rfl) (by kernel_rfl) (by kernel_rfl) (by kernel_rfl) ?_
      refine pl_take (.bool true) rfl (by kernel_rfl) (by kernel_rfl) (by kernel_rfl) (by kernel_rfl) ?_
      refine pl_skip rfl (by kernel_rfl) (by kernel_rfl) (by kernel_rfl) ?_
      refine pl_skip rfl (by kernel_rfl) (by kernel_rfl) (by kernel_rfl) ?_
      refine pl_skip rfl (by kernel_rfl) (by kernel_rfl) (by kernel_rfl) ?_
      refine pl_take (.bool true) rfl (by kernel_rfl) (by kernel_rfl) (by kernel_rfl) (by kernel_rfl) ?_
      refine pl_nil ?_
      refine qw_then ?_
      refine cw_clean [2, 3, 5, 6, 9, 10, 41] (ws' := [(2, .int .i64 (mi : Int)), (3, .int .i64 (wd : Int)), (5, .pointer (some ⟨O1, 0, none⟩)), (6, .pointer (some ⟨O5, 0, none⟩)), (9, .pointer (some ⟨O9, 0, none⟩)), (10, .pointer (some ⟨O13, 0, none⟩)), (41, .bool true)]) (by kernel_rfl) (fun L => ?_)
      refine cw_t (by kernel_rfl) ?_
      refine cw_seq ?_
      refine cw_plain ?_
      refine pl_take (.agg #[.int .i64 0, .int .i64 0]) rfl (by kernel_rfl) (by kernel_rfl) (by kernel_rfl) (by kernel_rfl) ?_
      refine pl_put rfl (by kernel_rfl) (by kernel_rfl) (sn_set2 (O := O13) (j := 0) (v := .int .i64 0) (v' := .int .i64 0) (ex_store (p := .pointer (some ⟨O13, 0, none⟩)) (v := .agg #[.int .i64 0, .int .i64 0]) rfl (by kernel_rfl) (by kernel_rfl) (st26 bO13_0.1 bO13_0.2 bO13_1.1 bO13_1.2)) bO13_0 bO13_1 ?_)
      intro X48 ho hv0 hv1 hk
      replace hE := ho.ext hE (Nat.le_trans (Nat.le_trans hs3 (Nat.le_trans hs7 hs11)) (Nat.le_of_eq hzO13))
      replace bO1_0 := ho.box (Nat.ne_of_gt (Nat.lt_of_lt_of_le lt4 (Nat.le_trans (Nat.le_trans hs7 hs11) (Nat.le_of_eq hzO13)))) bO1_0
      replace bO1_1 := ho.box (Nat.ne_of_gt (Nat.lt_of_lt_of_le lt4 (Nat.le_trans (Nat.le_trans hs7 hs11) (Nat.le_of_eq hzO13)))) bO1_1
      replace bO1_2 := ho.box (Nat.ne_of_gt (Nat.lt_of_lt_of_le lt4 (Nat.le_trans (Nat.le_trans hs7 hs11) (Nat.le_of_eq hzO13)))) bO1_2
      replace bO1_3 := ho.box (Nat.ne_of_gt (Nat.lt_of_lt_of_le lt4 (Nat.le_trans (Nat.le_trans hs7 hs11) (Nat.le_of_eq hzO13)))) bO1_3
      replace bO1_4 := ho.box (Nat.ne_of_gt (Nat.lt_of_lt_of_le lt4 (Nat.le_trans (Nat.le_trans hs7 hs11) (Nat.le_of_eq hzO13)))) bO1_4
      replace bO1_5 := ho.box (Nat.ne_of_gt (Nat.lt_of_lt_of_le lt4 (Nat.le_trans (Nat.le_trans hs7 hs11) (Nat.le_of_eq hzO13)))) bO1_5
      replace bO1_6 := ho.box (Nat.ne_of_gt (Nat.lt_of_lt_of_le lt4 (Nat.le_trans (Nat.le_trans hs7 hs11) (Nat.le_of_eq hzO13)))) bO1_6
      replace bO5_0 := ho.box (Nat.ne_of_gt (Nat.lt_of_lt_of_le lt8 (Nat.le_trans hs11 (Nat.le_of_eq hzO13)))) bO5_0
      replace bO5_1 := ho.box (Nat.ne_of_gt (Nat.lt_of_lt_of_le lt8 (Nat.le_trans hs11 (Nat.le_of_eq hzO13)))) bO5_1
      replace bO9_0 := ho.box (Nat.ne_of_gt (Nat.lt_of_lt_of_le lt12 (Nat.le_of_eq hzO13))) bO9_0
      have hs49 : w46.heap.size ≤ X48.heap.size := Nat.le_of_eq ho.size.symm
      clear ho hk bO13_0 bO13_1
      have bO13_0 := hv0; clear hv0
      have bO13_1 := hv1; clear hv1
      refine pl_take (.int .i64 0) rfl (by kernel_rfl) (by kernel_rfl) (by kernel_rfl) (by kernel_rfl) ?_
      refine pl_take (.bool false) rfl (by kernel_rfl) (by kernel_rfl) (by kernel_rfl) (by kernel_rfl) ?_
      refine pl_take (.int .i64 80) rfl (by kernel_rfl) (by kernel_rfl) (by kernel_rfl) (by kernel_rfl) ?_
      refine pl_nil ?_
      refine qw_then ?_
      refine cw_ret ?_
      refine qw_then_ret ?_
      refine qw_scope_ret ?_
      refine qw_ret [.agg #[.int .i64 0, .int .i64 0], .int .i64 0, .bool false, .int .i64 80] rfl ⟨⟨_, by kernel_rfl, res_ld (ld26 (bO13_0.1) (bO13_1.1))⟩, (by kernel_rfl), (by kernel_rfl), (by kernel_rfl), trivial⟩ ?_
      exact ⟨rfl, hE⟩
  ·
    refine pl_step rfl (by kernel_rfl) (by kernel_rfl) (by kernel_rfl) (sn_call (f := 56) (args := #[.agg #[.int .i64 (o.p : Int), .int .i64 (o.f : Int), .int .i64 (o.lo : Int), .int .i64 (o.hi : Int), .int .i64 (o.nd : Int), .int .i64 (o.tn : Int), .int .i64 (o.sl : Int)]]) (by kernel_rfl) ((oValid_r (r := false) _ (hb17)).mono ?_))
    rintro e w50 ⟨rfl, hb⟩
    replace hE := hE.trans hb
    replace bO1_0 := BoxAt.ext hb bO1_0
    replace bO1_1 := BoxAt.ext hb bO1_1
    replace bO1_2 := BoxAt.ext hb bO1_2
    replace bO1_3 := BoxAt.ext hb bO1_3
    replace bO1_4 := BoxAt.ext hb bO1_4
    replace bO1_5 := BoxAt.ext hb bO1_5
    replace bO1_6 := BoxAt.ext hb bO1_6
    replace bO5_0 := BoxAt.ext hb bO5_0
    replace bO5_1 := BoxAt.ext hb bO5_1
    replace bO9_0 := BoxAt.ext hb bO9_0
    replace bO13_0 := BoxAt.ext hb bO13_0
    replace bO13_1 := BoxAt.ext hb bO13_1
    have hs51 := hb.size
    clear hb
    refine ⟨_, rfl, ?_⟩
    refine pl_take (.bool true) rfl (by kernel_rfl) (by kernel_rfl) (by kernel_rfl) (by kernel_rfl) ?_
    refine pl_take (.bool true) rfl (by kernel_rfl) (by kernel_rfl) (by kernel_rfl) (by kernel_rfl) ?_
    refine pl_skip rfl (by kernel_rfl) (by kernel_rfl) (by kernel_rfl) ?_
    refine pl_skip rfl (by kernel_rfl) (by kernel_rfl) (by kernel_rfl) ?_
    refine pl_skip rfl (by kernel_rfl) (by kernel_rfl) (by kernel_rfl) ?_
    refine pl_take (.bool true) rfl (by kernel_rfl) (by kernel_rfl) (by kernel_rfl) (by kernel_rfl) ?_
    refine pl_take (.bool true) rfl (by kernel_rfl) (by kernel_rfl) (by kernel_rfl) (by kernel_rfl) ?_
    refine pl_skip rfl (by kernel_rfl) (by kernel_rfl) (by kernel_rfl) ?_
    refine pl_skip rfl (by kernel_rfl) (by kernel_rfl) (by kernel_rfl) ?_
    refine pl_skip rfl (by kernel_rfl) (by kernel_rfl) (by kernel_rfl) ?_
    refine pl_take (.bool true) rfl (by kernel_rfl) (by kernel_rfl) (by kernel_rfl) (by kernel_rfl) ?_
    refine pl_take (.bool true) rfl (by kernel_rfl) (by kernel_rfl) (by kernel_rfl) (by kernel_rfl) ?_
    refine pl_skip rfl (by kernel_rfl) (by kernel_rfl) (by kernel_rfl) ?_
    refine pl_skip rfl (by kernel_rfl) (by kernel_rfl) (by kernel_rfl) ?_
    refine pl_skip rfl (by kernel_rfl) (by kernel_rfl) (by kernel_rfl) ?_
    refine pl_take (.bool true) rfl (by kernel_rfl) (by kernel_rfl) (by kernel_rfl) (by kernel_rfl) ?_
    refine pl_take (.bool true) rfl (by kernel_rfl) (by kernel_rfl) (by kernel_rfl) (by kernel_rfl) ?_
    refine pl_skip rfl (by kernel_rfl) (by kernel_rfl) (by kernel_rfl) ?_
    refine pl_skip rfl (by kernel_rfl) (by kernel_rfl) (by kernel_rfl) ?_
    refine pl_skip rfl (by kernel_rfl) (by kernel_rfl) (by kernel_rfl) ?_
    refine pl_take (.bool true) rfl (by kernel_rfl) (by kernel_rfl) (by kernel_rfl) (by kernel_rfl) ?_
    refine pl_nil ?_
    refine qw_then ?_
    refine cw_clean [2, 3, 5, 6, 9, 10, 41] (ws' := [(2, .int .i64 (mi : Int)), (3, .int .i64 (wd : Int)), (5, .pointer (some ⟨O1, 0, none⟩)), (6, .pointer (some ⟨O5, 0, none⟩)), (9, .pointer (some ⟨O9, 0, none⟩)), (10, .pointer (some ⟨O13, 0, none⟩)), (41, .bool true)]) (by kernel_rfl) (fun L => ?_)
    refine cw_t (by kernel_rfl) ?_
    refine cw_seq ?_
    refine cw_plain ?_
    refine pl_take (.agg #[.int .i64 0, .int .i64 0]) rfl (by kernel_rfl) (by kernel_rfl) (by kernel_rfl) (by kernel_rfl) ?_
    refine pl_put rfl (by kernel_rfl) (by kernel_rfl) (sn_set2 (O := O13) (j := 0) (v := .int .i64 0) (v' := .int .i64 0) (ex_store (p := .pointer (some ⟨O13, 0, none⟩)) (v := .agg #[.int .i64 0, .int .i64 0]) rfl (by kernel_rfl) (by kernel_rfl) (st26 bO13_0.1 bO13_0.2 bO13_1.1 bO13_1.2)) bO13_0 bO13_1 ?_)
    intro X52 ho hv0 hv1 hk
    replace hE := ho.ext hE (Nat.le_trans (Nat.le_trans hs3 (Nat.le_trans hs7 hs11)) (Nat.le_of_eq hzO13))
    replace bO1_0 := ho.box (Nat.ne_of_gt (Nat.lt_of_lt_of_le lt4 (Nat.le_trans (Nat.le_trans hs7 hs11) (Nat.le_of_eq hzO13)))) bO1_0
    replace bO1_1 := ho.box (Nat.ne_of_gt (Nat.lt_of_lt_of_le lt4 (Nat.le_trans (Nat.le_trans hs7 hs11) (Nat.le_of_eq hzO13)))) bO1_1
    replace bO1_2 := ho.box (Nat.ne_of_gt (Nat.lt_of_lt_of_le lt4 (Nat.le_trans (Nat.le_trans hs7 hs11) (Nat.le_of_eq hzO13)))) bO1_2
    replace bO1_3 := ho.box (Nat.ne_of_gt (Nat.lt_of_lt_of_le lt4 (Nat.le_trans (Nat.le_trans hs7 hs11) (Nat.le_of_eq hzO13)))) bO1_3
    replace bO1_4 := ho.box (Nat.ne_of_gt (Nat.lt_of_lt_of_le lt4 (Nat.le_trans (Nat.le_trans hs7 hs11) (Nat.le_of_eq hzO13)))) bO1_4
    replace bO1_5 := ho.box (Nat.ne_of_gt (Nat.lt_of_lt_of_le lt4 (Nat.le_trans (Nat.le_trans hs7 hs11) (Nat.le_of_eq hzO13)))) bO1_5
    replace bO1_6 := ho.box (Nat.ne_of_gt (Nat.lt_of_lt_of_le lt4 (Nat.le_trans (Nat.le_trans hs7 hs11) (Nat.le_of_eq hzO13)))) bO1_6
    replace bO5_0 := ho.box (Nat.ne_of_gt (Nat.lt_of_lt_of_le lt8 (Nat.le_trans hs11 (Nat.le_of_eq hzO13)))) bO5_0
    replace bO5_1 := ho.box (Nat.ne_of_gt (Nat.lt_of_lt_of_le lt8 (Nat.le_trans hs11 (Nat.le_of_eq hzO13)))) bO5_1
    replace bO9_0 := ho.box (Nat.ne_of_gt (Nat.lt_of_lt_of_le lt12 (Nat.le_of_eq hzO13))) bO9_0
    have hs53 : w50.heap.size ≤ X52.heap.size := Nat.le_of_eq ho.size.symm
    clear ho hk bO13_0 bO13_1
    have bO13_0 := hv0; clear hv0
    have bO13_1 := hv1; clear hv1
    refine pl_take (.int .i64 0) rfl (by kernel_rfl) (by kernel_rfl) (by kernel_rfl) (by kernel_rfl) ?_
    refine pl_take (.bool false) rfl (by kernel_rfl) (by kernel_rfl) (by kernel_rfl) (by kernel_rfl) ?_
    refine pl_take (.int .i64 80) rfl (by kernel_rfl) (by kernel_rfl) (by kernel_rfl) (by kernel_rfl) ?_
    refine pl_nil ?_
    refine qw_then ?_
    refine cw_ret ?_
    refine qw_then_ret ?_
    refine qw_scope_ret ?_
    refine qw_ret [.agg #[.int .i64 0, .int .i64 0], .int .i64 0, .bool false, .int .i64 80] rfl ⟨⟨_, by kernel_rfl, res_ld (ld26 (bO13_0.1) (bO13_1.1))⟩, (by kernel_rfl), (by kernel_rfl), (by kernel_rfl), trivial⟩ ?_
    exact ⟨rfl, hE⟩

end Go.Proofs.Ytdjjkhefdalokaa
