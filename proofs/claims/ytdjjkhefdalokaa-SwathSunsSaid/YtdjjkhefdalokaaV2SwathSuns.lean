/- Part 2 of what the proof of SwathSuns stands on. -/
import Derived.Test.YtdjjkhefdalokaaV1SwathSuns
import Derived.RangeFuncNested
import Derived.RangeFuncBound
import Derived.RangeFuncCalls
import Derived.RangeFuncLeaves
import Derived.RangeFuncBox
import Derived.Shelf.Abstract
import Derived.Shelf.RegionOpen
import Derived.OwnWalkIn
import Derived.TacticsInMore
import Derived.LoopNIn
import Derived.LoopIn
import Derived.Deep.RegionHeld3
/- Contracts of package orbit: around, Valid. -/
namespace Go.Proofs.Ytdjjkhefdalokaa
open Go.RowKit

set_option maxRecDepth 1000000 in
set_option maxHeartbeats 4000000 in
theorem around_c (n c : Int) (w : World) (h0 : 0 < c) (hc : c ≤ 48000) : Calls Try.prog 104 #[.int .i64 n, .int .i64 c] w fun e w' => e = .returned (.int .i64 (n % c)) ∧ Ext w w' := by
  have ht := Orb.tmod_bd (n := n) h0
  refine calls_cw 12 [(1, .int .i64 (c : Int)), (0, .int .i64 (n : Int))] Try.func104 rfl Try.ntmps104 (by kernel_rfl) (by kernel_rfl) (fun L => ?_)
  have hE : Ext w w := Ext.refl w
  refine cw_seq ?_
  refine cw_plain ?_
  refine pl_take (.int .i64 0) rfl (by kernel_rfl) (by kernel_rfl) (by kernel_rfl) (by kernel_rfl) ?_
  refine pl_nil ?_
  refine qw_then ?_
  refine cw_seq ?_
  refine cw_plain ?_
  refine pl_take (.int .i64 (n : Int)) rfl (by kernel_rfl) (by kernel_rfl) (by kernel_rfl) (by kernel_rfl) ?_
  refine pl_take (.int .i64 (c : Int)) rfl (by kernel_rfl) (by kernel_rfl) (by kernel_rfl) (by kernel_rfl) ?_
  refine pl_take (.int .i64 ((n : Int).tmod c : Int)) rfl (by kernel_rfl) (by kernel_rfl) (by kernel_rfl) (ex_bin (a := n) (b := c) rfl (by kernel_rfl) (by kernel_rfl) (bin_tmod (by omega))) ?_
  refine pl_take (.int .i64 (c : Int)) rfl (by kernel_rfl) (by kernel_rfl) (by kernel_rfl) (by kernel_rfl) ?_
  refine pl_take (.int .i64 (((n : Int).tmod c) + c : Int)) rfl (by kernel_rfl) (by kernel_rfl) (by kernel_rfl) (ev_wrap (by kernel_rfl) (by omega) (by omega)) ?_
  refine pl_take (.int .i64 (c : Int)) rfl (by kernel_rfl) (by kernel_rfl) (by kernel_rfl) (by kernel_rfl) ?_
  refine pl_take (.int .i64 (n % c : Int)) rfl (by kernel_rfl) (by kernel_rfl) (by kernel_rfl) (ev_int (ex_bin (a := n.tmod c + c) (b := c) rfl (by kernel_rfl) (by kernel_rfl) (bin_tmod (by omega))) (Orb.around_eq h0)) ?_
  refine pl_take (.int .i64 (n % c : Int)) rfl (by kernel_rfl) (by kernel_rfl) (by kernel_rfl) (by kernel_rfl) ?_
  refine pl_nil ?_
  refine qw_then ?_
  refine cw_ret ?_
  refine qw_ret [.int .i64 (n % c : Int)] rfl ⟨(by kernel_rfl), trivial⟩ ?_
  exact ⟨rfl, hE⟩
set_option maxRecDepth 1000000 in
set_option maxHeartbeats 4000000 in
theorem oValid_c (o : Orb) (w : World) : Calls Try.prog 56 #[.agg #[.int .i64 o.p, .int .i64 o.f, .int .i64 o.lo, .int .i64 o.hi, .int .i64 o.nd, .int .i64 o.tn, .int .i64 o.sl]] w fun e w' => e = .returned (.bool (Orb.ok o)) ∧ Ext w w' := by
  refine calls_cw 56 [(0, .agg #[.int .i64 (o.p : Int), .int .i64 (o.f : Int), .int .i64 (o.lo : Int), .int .i64 (o.hi : Int), .int .i64 (o.nd : Int), .int .i64 (o.tn : Int), .int .i64 (o.sl : Int)])] Try.func56 rfl Try.ntmps56 (by kernel_rfl) (by kernel_rfl) (fun L => ?_)
  have hE : Ext w w := Ext.refl w
  refine cw_seq ?_
  refine cw_plain ?_
  refine pl_step rfl (by kernel_rfl) (by kernel_rfl) (by kernel_rfl) (sn_new (us := #[.int .i64 (o.p : Int), .int .i64 (o.f : Int), .int .i64 (o.lo : Int), .int .i64 (o.hi : Int), .int .i64 (o.nd : Int), .int .i64 (o.tn : Int), .int .i64 (o.sl : Int)]) (t := 24) (by kernel_rfl) ?_)
  intro O1 X2 hO hOs hb hbx
  have hzO1 := hO; have hyO1 := hOs; clear hO hOs
  have bO1_0 : BoxAt X2 O1 0 (.int .i64 (o.p : Int)) := hbx 0 _ rfl
  have bO1_1 : BoxAt X2 O1 1 (.int .i64 (o.f : Int)) := hbx 1 _ rfl
  have bO1_2 : BoxAt X2 O1 2 (.int .i64 (o.lo : Int)) := hbx 2 _ rfl
  have bO1_3 : BoxAt X2 O1 3 (.int .i64 (o.hi : Int)) := hbx 3 _ rfl
  have bO1_4 : BoxAt X2 O1 4 (.int .i64 (o.nd : Int)) := hbx 4 _ rfl
  have bO1_5 : BoxAt X2 O1 5 (.int .i64 (o.tn : Int)) := hbx 5 _ rfl
  have bO1_6 : BoxAt X2 O1 6 (.int .i64 (o.sl : Int)) := hbx 6 _ rfl
  clear hbx
  replace hE := hE.trans hb
  have hs3 := hb.size
  clear hb
  have lt4 := bO1_0.lt
  refine pl_take (.bool false) rfl (by kernel_rfl) (by kernel_rfl) (by kernel_rfl) (by kernel_rfl) ?_
  refine pl_nil ?_
  refine qw_then ?_
  refine cw_seq ?_
  have hX5 : Ext X2 X2 := Ext.refl _
  refine cw_plain ?_
  refine pl_take (.pointer (some ⟨O1, 0, none⟩)) rfl (by kernel_rfl) (by kernel_rfl) (by kernel_rfl) (by kernel_rfl) ?_
  refine pl_take (.int .i64 (o.p : Int)) rfl (by kernel_rfl) (by kernel_rfl) (by kernel_rfl) (ex_load rfl (by kernel_rfl) (ld3 (bO1_0.1))) ?_
  rcases Bool.eq_false_or_eq_true (Globe.inB o.p 20 2000) with hb6 | hb6
  ·
    have hq7 := Globe.inB_t.1 hb6
    refine pl_step rfl (by kernel_rfl) (by kernel_rfl) (by kernel_rfl) (sn_call (f := 87) (args := #[.int .i64 (o.p : Int), .int .i64 20, .int .i64 2000]) (by kernel_rfl) ((orbit_in_r (r := true) o.p 20 2000 _ (hb6)).mono ?_))
    rintro e w8 ⟨rfl, hb⟩
    replace hE := hE.trans hb
    replace hX5 := hX5.trans hb
    have hs9 := hb.size
    clear hb
    refine ⟨_, rfl, ?_⟩
    refine pl_take (.bool true) rfl (by kernel_rfl) (by kernel_rfl) (by kernel_rfl) (by kernel_rfl) ?_
    refine pl_take (.pointer (some ⟨O1, 0, none⟩)) rfl (by kernel_rfl) (by kernel_rfl) (by kernel_rfl) (by kernel_rfl) ?_
    refine pl_take (.int .i64 (o.p : Int)) rfl (by kernel_rfl) (by kernel_rfl) (by kernel_rfl) (ex_load rfl (by kernel_rfl) (ld3 ((BoxAt.ext hX5 bO1_0).1))) ?_
    refine pl_take (.int .i64 ((o.p : Int).tmod 2 : Int)) rfl (by kernel_rfl) (by kernel_rfl) (by kernel_rfl) (ex_bin (a := o.p) (b := 2) rfl (by kernel_rfl) (by kernel_rfl) (bin_tmod (by omega))) ?_
    by_cases hc10 : ((o.p : Int).tmod 2 : Int) = (0 : Int)
    ·
      refine pl_take (.bool true) rfl (by kernel_rfl) (by kernel_rfl) (by kernel_rfl) (ev_eq (show _ = Result.ok (Next.value (Value.bool (((o.p : Int).tmod 2 : Int) == (0 : Int)))) _ from by kernel_rfl) (hc10)) ?_
      refine pl_take (.bool true) rfl (by kernel_rfl) (by kernel_rfl) (by kernel_rfl) (by kernel_rfl) ?_
      refine pl_take (.bool true) rfl (by kernel_rfl) (by kernel_rfl) (by kernel_rfl) (by kernel_rfl) ?_
      refine pl_take (.pointer (some ⟨O1, 1, none⟩)) rfl (by kernel_rfl) (by kernel_rfl) (by kernel_rfl) (by kernel_rfl) ?_
      refine pl_take (.int .i64 (o.f : Int)) rfl (by kernel_rfl) (by kernel_rfl) (by kernel_rfl) (ex_load rfl (by kernel_rfl) (ld3 ((BoxAt.ext hX5 bO1_1).1))) ?_
      refine pl_take (.pointer (some ⟨O1, 0, none⟩)) rfl (by kernel_rfl) (by kernel_rfl) (by kernel_rfl) (by kernel_rfl) ?_
      refine pl_take (.int .i64 (o.p : Int)) rfl (by kernel_rfl) (by kernel_rfl) (by kernel_rfl) (ex_load rfl (by kernel_rfl) (ld3 ((BoxAt.ext hX5 bO1_0).1))) ?_
      refine pl_take (.int .i64 (o.p - 1 : Int)) rfl (by kernel_rfl) (by kernel_rfl) (by kernel_rfl) (ev_wrap (by kernel_rfl) (by omega) (by omega)) ?_
      rcases Bool.eq_false_or_eq_true (Globe.inB o.f 0 (o.p - 1)) with hb11 | hb11
      ·
        have hq12 := Globe.inB_t.1 hb11
        refine pl_step rfl (by kernel_rfl) (by kernel_rfl) (by kernel_rfl) (sn_call (f := 87) (args := #[.int .i64 (o.f : Int), .int .i64 0, .int .i64 (o.p - 1 : Int)]) (by kernel_rfl) ((orbit_in_r (r := true) o.f 0 (o.p - 1) _ (hb11)).mono ?_))
        rintro e w13 ⟨rfl, hb⟩
        replace hE := hE.trans hb
        replace hX5 := hX5.trans hb
        have hs14 := hb.size
        clear hb
        refine ⟨_, rfl, ?_⟩
        refine pl_take (.bool true) rfl (by kernel_rfl) (by kernel_rfl) (by kernel_rfl) (by kernel_rfl) ?_
        refine pl_take (.bool true) rfl (by kernel_rfl) (by kernel_rfl) (by kernel_rfl) (by kernel_rfl) ?_
        refine pl_nil ?_
        refine qw_then ?_
        refine cw_clean [1, 3] (ws' := [(1, .pointer (some ⟨O1, 0, none⟩)), (3, .bool true)]) (by kernel_rfl) (fun L => ?_)
        refine cw_seq ?_
        refine cw_plain ?_
        refine pl_take (.pointer (some ⟨O1, 2, none⟩)) rfl (by kernel_rfl) (by kernel_rfl) (by kernel_rfl) (by kernel_rfl) ?_
        refine pl_take (.int .i64 (o.lo : Int)) rfl (by kernel_rfl) (by kernel_rfl) (by kernel_rfl) (ex_load rfl (by kernel_rfl) (ld3 ((BoxAt.ext hX5 bO1_2).1))) ?_
        rcases Bool.eq_false_or_eq_true (Globe.inB o.lo 0 23999) with hb15 | hb15
        ·
          have hq16 := Globe.inB_t.1 hb15
          refine pl_step rfl (by kernel_rfl) (by kernel_rfl) (by kernel_rfl) (sn_call (f := 87) (args := #[.int .i64 (o.lo : Int), .int .i64 0, .int .i64 23999]) (by kernel_rfl) ((orbit_in_r (r := true) o.lo 0 23999 _ (hb15)).mono ?_))
          rintro e w17 ⟨rfl, hb⟩
          replace hE := hE.trans hb
          replace hX5 := hX5.trans hb
          have hs18 := hb.size
          clear hb
          refine ⟨_, rfl, ?_⟩
          refine pl_take (.bool true) rfl (by kernel_rfl) (by kernel_rfl) (by kernel_rfl) (by kernel_rfl) ?_
          refine pl_take (.pointer (some ⟨O1, 3, none⟩)) rfl (by kernel_rfl) (by kernel_rfl) (by kernel_rfl) (by kernel_rfl) ?_
          refine pl_take (.int .i64 (o.hi : Int)) rfl (by kernel_rfl) (by kernel_rfl) (by kernel_rfl) (ex_load rfl (by kernel_rfl) (ld3 ((BoxAt.ext hX5 bO1_3).1))) ?_
          rcases Bool.eq_false_or_eq_true (Globe.inB o.hi 0 23999) with hb19 | hb19
          ·
            have hq20 := Globe.inB_t.1 hb19
            refine pl_step rfl (by kernel_rfl) (by kernel_rfl) (by kernel_rfl) (sn_call (f := 87) (args := #[.int .i64 (o.hi : Int), .int .i64 0, .int .i64 23999]) (by kernel_rfl) ((orbit_in_r (r := true) o.hi 0 23999 _ (hb19)).mono ?_))
            rintro e w21 ⟨rfl, hb⟩
            replace hE := hE.trans hb
            replace hX5 := hX5.trans hb
            have hs22 := hb.size
            clear hb
            refine ⟨_, rfl, ?_⟩
            refine pl_take (.bool true) rfl (by kernel_rfl) (by kernel_rfl) (by kernel_rfl) (by kernel_rfl) ?_
            refine pl_take (.bool true) rfl (by kernel_rfl) (by kernel_rfl) (by kernel_rfl) (by kernel_rfl) ?_
            refine pl_take (.pointer (some ⟨O1, 2, none⟩)) rfl (by kernel_rfl) (by kernel_rfl) (by kernel_rfl) (by kernel_rfl) ?_
            refine pl_take (.int .i64 (o.lo : Int)) rfl (by kernel_rfl) (by kernel_rfl) (by kernel_rfl) (ex_load rfl (by kernel_rfl) (ld3 ((BoxAt.ext hX5 bO1_2).1))) ?_
            refine pl_take (.pointer (some ⟨O1, 3, none⟩)) rfl (by kernel_rfl) (by kernel_rfl) (by kernel_rfl) (by kernel_rfl) ?_
            refine pl_take (.int .i64 (o.hi : Int)) rfl (by kernel_rfl) (by kernel_rfl) (by kernel_rfl) (ex_load rfl (by kernel_rfl) (ld3 ((BoxAt.ext hX5 bO1_3).1))) ?_
            by_cases hc23 : (o.lo : Int) < (o.hi : Int)
            ·
              refine pl_take (.bool true) rfl (by kernel_rfl) (by kernel_rfl) (by kernel_rfl) (ev_dec (show _ = Result.ok (Next.value (Value.bool (decide ((o.lo : Int) < (o.hi : Int))))) _ from by kernel_rfl) (hc23)) ?_
              refine pl_take (.bool true) rfl (by kernel_rfl) (by kernel_rfl) (by kernel_rfl) (by kernel_rfl) ?_
              refine pl_take (.bool true) rfl (by kernel_rfl) (by kernel_rfl) (by kernel_rfl) (by kernel_rfl) ?_
              refine pl_nil ?_
              refine qw_then ?_
              refine cw_clean [1, 3, 4] (ws' := [(1, .pointer (some ⟨O1, 0, none⟩)), (3, .bool true), (4, .bool true)]) (by kernel_rfl) (fun L => ?_)
              refine cw_seq ?_
              refine cw_plain ?_
              refine pl_take (.bool true) rfl (by kernel_rfl) (by kernel_rfl) (by kernel_rfl) (by kernel_rfl) ?_
              refine pl_take (.bool true) rfl (by kernel_rfl) (by kernel_rfl) (by kernel_rfl) (by kernel_rfl) ?_
              refine pl_take (.bool true) rfl (by kernel_rfl) (by kernel_rfl) (by kernel_rfl) (by kernel_rfl) ?_
              refine pl_take (.bool true) rfl (by kernel_rfl) (by kernel_rfl) (by kernel_rfl) (by kernel_rfl) ?_
              refine pl_take (.bool true) rfl (by kernel_rfl) (by kernel_rfl) (by kernel_rfl) (by kernel_rfl) ?_
              refine pl_take (.pointer (some ⟨O1, 4, none⟩)) rfl (by kernel_rfl) (by kernel_rfl) (by kernel_rfl) (by kernel_rfl) ?_
              refine pl_take (.int .i64 (o.nd : Int)) rfl (by kernel_rfl) (by kernel_rfl) (by kernel_rfl) (ex_load rfl (by kernel_rfl) (ld3 ((BoxAt.ext hX5 bO1_4).1))) ?_
              rcases Bool.eq_false_or_eq_true (Globe.inB o.nd 0 47999) with hb24 | hb24
              ·
                have hq25 := Globe.inB_t.1 hb24
                refine pl_step rfl (by kernel_rfl) (by kernel_rfl) (by kernel_rfl) (sn_call (f := 87) (args := #[.int .i64 (o.nd : Int), .int .i64 0, .int .i64 47999]) (by kernel_rfl) ((orbit_in_r (r := true) o.nd 0 47999 _ (hb24)).mono ?_))
                rintro e w26 ⟨rfl, hb⟩
                replace hE := hE.trans hb
                replace hX5 := hX5.trans hb
                have hs27 := hb.size
                clear hb
                refine ⟨_, rfl, ?_⟩
                refine pl_take (.bool true) rfl (by kernel_rfl) (by kernel_rfl) (by kernel_rfl) (by kernel_rfl) ?_
                refine pl_take (.bool true) rfl (by kernel_rfl) (by kernel_rfl) (by kernel_rfl) (by kernel_rfl) ?_
                refine pl_take (.pointer (some ⟨O1, 5, none⟩)) rfl (by kernel_rfl) (by kernel_rfl) (by kernel_rfl) (by kernel_rfl) ?_
                refine pl_take (.int .i64 (o.tn : Int)) rfl (by kernel_rfl) (by kernel_rfl) (by kernel_rfl) (ex_load rfl (by kernel_rfl) (ld3 ((BoxAt.ext hX5 bO1_5).1))) ?_
                rcases Bool.eq_false_or_eq_true (Globe.inB o.tn (-2000) 2000) with hb28 | hb28
                ·
                  have hq29 := Globe.inB_t.1 hb28
                  refine pl_step rfl (by kernel_rfl) (by kernel_rfl) (by kernel_rfl) (sn_call (f := 87) (args := #[.int .i64 (o.tn : Int), .int .i64 (-2000 : Int), .int .i64 2000]) (by kernel_rfl) ((orbit_in_r (r := true) o.tn (-2000) 2000 _ (hb28)).mono ?_))
                  rintro e w30 ⟨rfl, hb⟩
                  replace hE := hE.trans hb
                  replace hX5 := hX5.trans hb
                  have hs31 := hb.size
                  clear hb
                  refine ⟨_, rfl, ?_⟩
                  refine pl_take (.bool true) rfl (by kernel_rfl) (by kernel_rfl) (by kernel_rfl) (by kernel_rfl) ?_
                  refine pl_take (.bool true) rfl (by kernel_rfl) (by kernel_rfl) (by kernel_rfl) (by kernel_rfl) ?_
                  refine pl_take (.pointer (some ⟨O1, 6, none⟩)) rfl (by kernel_rfl) (by kernel_rfl) (by kernel_rfl) (by kernel_rfl) ?_
                  refine pl_take (.int .i64 (o.sl : Int)) rfl (by kernel_rfl) (by kernel_rfl) (by kernel_rfl) (ex_load rfl (by kernel_rfl) (ld3 ((BoxAt.ext hX5 bO1_6).1))) ?_
                  rcases Bool.eq_false_or_eq_true (Globe.inB o.sl 0 10) with hb32 | hb32
                  ·
                    have hq33 := Globe.inB_t.1 hb32
                    refine pl_step rfl (by kernel_rfl) (by kernel_rfl) (by kernel_rfl) (sn_call (f := 87) (args := #[.int .i64 (o.sl : Int), .int .i64 0, .int .i64 10]) (by kernel_rfl) ((orbit_in_r (r := true) o.sl 0 10 _ (hb32)).mono ?_))
                    rintro e w34 ⟨rfl, hb⟩
                    replace hE := hE.trans hb
                    replace hX5 := hX5.trans hb
                    have hs35 := hb.size
                    clear hb
                    refine ⟨_, rfl, ?_⟩
                    refine pl_take (.bool true) rfl (by kernel_rfl) (by kernel_rfl) (by kernel_rfl) (by kernel_rfl) ?_
                    refine pl_take (.bool true) rfl (by kernel_rfl) (by kernel_rfl) (by kernel_rfl) (by kernel_rfl) ?_
                    refine pl_nil ?_
                    refine qw_then ?_
                    refine cw_clean [2] (ws' := [(2, .bool true)]) (by kernel_rfl) (fun L => ?_)
                    refine cw_ret ?_
                    refine qw_ret [.bool true] rfl ⟨(by kernel_rfl), trivial⟩ ?_
                    exact ⟨congrArg (fun b => Ending.returned (Value.bool b)) (show Orb.ok o = true by simp [Orb.ok, hb6, hb11, hb15, hb19, hb24, hb28, hb32, hc10, hc23]).symm, hE⟩
                  ·
                    refine pl_step rfl (by kernel_rfl) (by kernel_rfl) (by kernel_rfl) (sn_call (f := 87) (args := #[.int .i64 (o.sl : Int), .int .i64 0, .int .i64 10]) (by kernel_rfl) ((orbit_in_r (r := false) o.sl 0 10 _ (hb32)).mono ?_))
                    rintro e w36 ⟨rfl, hb⟩
                    replace hE := hE.trans hb
                    replace hX5 := hX5.trans hb
                    have hs37 := hb.size
                    clear hb
                    refine ⟨_, rfl, ?_⟩
                    refine pl_take (.bool false) rfl (by kernel_rfl) (by kernel_rfl) (by kernel_rfl) (by kernel_rfl) ?_
                    refine pl_take (.bool false) rfl (by kernel_rfl) (by kernel_rfl) (by kernel_rfl) (by kernel_rfl) ?_
                    refine pl_nil ?_
                    refine qw_then ?_
                    refine cw_clean [2] (ws' := [(2, .bool false)]) (by kernel_rfl) (fun L => ?_)
                    refine cw_ret ?_
                    refine qw_ret [.bool false] rfl ⟨(by kernel_rfl), trivial⟩ ?_
                    exact ⟨congrArg (fun b => Ending.returned (Value.bool b)) (show Orb.ok o = false by simp [Orb.ok, hb6, hb11, hb15, hb19, hb24, hb28, hb32, hc10, hc23]).symm, hE⟩
                ·
                  refine pl_step rfl (by kernel_rfl) (by kernel_rfl) (by kernel_rfl) (sn_call (f := 87) (args := #[.int .i64 (o.tn : Int), .int .i64 (-2000 : Int), .int .i64 2000]) (by kernel_rfl) ((orbit_in_r (r := false) o.tn (-2000) 2000 _ (hb28)).mono ?_))
                  rintro e w38 ⟨rfl, hb⟩
                  replace hE := hE.trans hb
                  replace hX5 := hX5.trans hb
                  have hs39 := hb.size
                  clear hb
                  refine ⟨_, rfl, ?_⟩
                  refine pl_take (.bool false) rfl (by kernel_rfl) (by kernel_rfl) (by kernel_rfl) (by kernel_rfl) ?_
                  refine pl_take (.bool false) rfl (by kernel_rfl) (by kernel_rfl) (by kernel_rfl) (by kernel_rfl) ?_
                  refine pl_skip rfl (by kernel_rfl) (by kernel_rfl) (by kernel_rfl) ?_
                  refine pl_skip rfl (by kernel_rfl) (by kernel_rfl) (by kernel_rfl) ?_
                  refine pl_skip rfl (by kernel_rfl) (by kernel_rfl) (by kernel_rfl) ?_
                  refine pl_take (.bool false) rfl (by kernel_rfl) (by kernel_rfl) (by kernel_rfl) (by kernel_rfl) ?_
                  refine pl_take (.bool false) rfl (by kernel_rfl) (by kernel_rfl) (by kernel_rfl) (by kernel_rfl) ?_
                  refine pl_nil ?_
                  refine qw_then ?_
                  refine cw_clean [2] (ws' := [(2, .bool false)]) (by kernel_rfl) (fun L => ?_)
                  refine cw_ret ?_
                  refine qw_ret [.bool false] rfl ⟨(by kernel_rfl), trivial⟩ ?_
                  exact ⟨congrArg (fun b => Ending.returned (Value.bool b)) (show Orb.ok o = false by simp [Orb.ok, hb6, hb11, hb15, hb19, hb24, hb28, hc10, hc23]).symm, hE⟩
              ·
                refine pl_step rfl (by kernel_rfl) (by kernel_rfl) (by kernel_rfl) (sn_call (f := 87) (args := #[.int .i64 (o.nd : Int), .int .i64 0, .int .i64 47999]) (by kernel_rfl) ((orbit_in_r (r := false) o.nd 0 47999 _ (hb24)).mono ?_))
                rintro e w40 ⟨rfl, hb⟩
                replace hE := hE.trans hb
                replace hX5 := hX5.trans hb
                have hs41 := hb.size
                clear hb
                refine ⟨_, rfl, ?_⟩
                refine pl_take (.bool false) rfl (by kernel_rfl) (by kernel_rfl) (by kernel_rfl) (by kernel_rfl) ?_
                refine pl_take (.bool false) rfl (by kernel_rfl) (by kernel_rfl) (by kernel_rfl) (by kernel_rfl) ?_
                refine pl_skip rfl (by kernel_rfl) (by kernel_rfl) (by kernel_rfl) ?_
                refine pl_skip rfl (by kernel_rfl) (by kernel_rfl) (by kernel_rfl) ?_
                refine pl_skip rfl (by kernel_rfl) (by kernel_rfl) (by kernel_rfl) ?_
                refine pl_take (.bool false) rfl (by kernel_rfl) (by kernel_rfl) (by kernel_rfl) (by kernel_rfl) ?_
                refine pl_take (.bool false) rfl (by kernel_rfl) (by kernel_rfl) (by kernel_rfl) (by kernel_rfl) ?_
                refine pl_skip rfl (by kernel_rfl) (by kernel_rfl) (by kernel_rfl) ?_
                refine pl_skip rfl (by kernel_rfl) (by kernel_rfl) (by kernel_rfl) ?_
                refine pl_skip rfl (by kernel_rfl) (by kernel_rfl) (by kernel_rfl) ?_
                refine pl_take (.bool false) rfl (by kernel_rfl) (by kernel_rfl) (by kernel_rfl) (by kernel_rfl) ?_
                refine pl_take (.bool false) rfl (by kernel_rfl) (by kernel_rfl) (by kernel_rfl) (by kernel_rfl) ?_
                refine pl_nil ?_
                refine qw_then ?_
                refine cw_clean [2] (ws' := [(2, .bool false)]) (by kernel_rfl) (fun L => ?_)
                refine cw_ret ?_
                refine qw_ret [.bool false] rfl ⟨(by kernel_rfl), trivial⟩ ?_
                exact ⟨congrArg (fun b => Ending.returned (Value.bool b)) (show Orb.ok o = false by simp [Orb.ok, hb6, hb11, hb15, hb19, hb24, hc10, hc23]).symm, hE⟩
            ·
              refine pl_take (.bool false) rfl (by kernel_rfl) (by kernel_rfl) (by kernel_rfl) (ev_ndec (show _ = Result.ok (Next.value (Value.bool (decide ((o.lo : Int) < (o.hi : Int))))) _ from by kernel_rfl) (hc23)) ?_
              refine pl_take (.bool false) rfl (by kernel_rfl) (by kernel_rfl) (by kernel_rfl) (by kernel_rfl) ?_
              refine pl_take (.bool false) rfl (by kernel_rfl) (by kernel_rfl) (by kernel_rfl) (by kernel_rfl) ?_
              refine pl_nil ?_
              refine qw_then ?_
              refine cw_clean [1, 3, 4] (ws' := [(1, .pointer (some ⟨O1, 0, none⟩)), (3, .bool true), (4, .bool false)]) (by kernel_rfl) (fun L => ?_)
              refine cw_seq ?_
              refine cw_plain ?_
              refine pl_take (.bool true) rfl (by kernel_rfl) (by kernel_rfl) (by kernel_rfl) (by kernel_rfl) ?_
              refine pl_take (.bool true) rfl (by kernel_rfl) (by kernel_rfl) (by kernel_rfl) (by kernel_rfl) ?_
              refine pl_take (.bool false) rfl (by kernel_rfl) (by kernel_rfl) (by kernel_rfl) (by kernel_rfl) ?_
              refine pl_take (.bool false) rfl (by kernel_rfl) (by kernel_rfl) (by kernel_rfl) (by kernel_rfl) ?_
              refine pl_take (.bool false) rfl (by kernel_rfl) (by kernel_rfl) (by kernel_rfl) (by kernel_rfl) ?_
              refine pl_skip rfl (by kernel_rfl) (by kernel_rfl) (by kernel_rfl) ?_
              refine pl_skip rfl (by kernel_rfl) (by kernel_rfl) (by kernel_rfl) ?_
              refine pl_skip rfl (by kernel_rfl) (by kernel_rfl) (by kernel_rfl) ?_
              refine pl_take (.bool false) rfl (by kernel_rfl) (by kernel_rfl) (by kernel_rfl) (by kernel_rfl) ?_
              refine pl_take (.bool false) rfl (by kernel_rfl) (by kernel_rfl) (by kernel_rfl) (by kernel_rfl) ?_
              refine pl_skip rfl (by kernel_rfl) (by kernel_rfl) (by kernel_rfl) ?_
              refine pl_skip rfl (by kernel_rfl) (by kernel_rfl) (by kernel_rfl) ?_
              refine pl_skip rfl (by kernel_rfl) (by kernel_rfl) (by kernel_rfl) ?_
              refine pl_take (.bool false) rfl (by kernel_rfl) (by kernel_rfl) (by kernel_rfl) (by kernel_rfl) ?_
              refine pl_take (.bool false) rfl (by kernel_rfl) (by kernel_rfl) (by kernel_rfl) (by kernel_rfl) ?_
              refine pl_skip rfl (by kernel_rfl) (by kernel_rfl) (by kernel_rfl) ?_
              refine pl_skip rfl (by kernel_rfl) (by kernel_rfl) (by kernel_rfl) ?_
              refine pl_skip rfl (by kernel_rfl) (by kernel_rfl) (by kernel_rfl) ?_
              refine pl_take (.bool false) rfl (by kernel_rfl) (by kernel_rfl) (by kernel_rfl) (by kernel_rfl) ?_
              refine pl_take (.bool false) rfl (by kernel_rfl) (by kernel_rfl) (by kernel_rfl) (by kernel_rfl) ?_
              refine pl_nil ?_
              refine qw_then ?_
              refine cw_clean [2] (ws' := [(2, .bool false)]) (by kernel_rfl) (fun L => ?_)
              refine cw_ret ?_
              refine qw_ret [.bool false] rfl ⟨(by kernel_rfl), trivial⟩ ?_
              exact ⟨congrArg (fun b => Ending.returned (Value.bool b)) (show Orb.ok o = false by simp [Orb.ok, hb6, hb11, hb15, hb19, hc10, hc23]).symm, hE⟩
          ·
            refine pl_step rfl (by kernel_rfl) (by kernel_rfl) (by kernel_rfl) (sn_call (f := 87) (args := #[.int .i64 (o.hi : Int), .int .i64 0, .int .i64 23999]) (by kernel_rfl) ((orbit_in_r (r := false) o.hi 0 23999 _ (hb19)).mono ?_))
            rintro e w42 ⟨rfl, hb⟩
            replace hE := hE.trans hb
            replace hX5 := hX5.trans hb
            have hs43 := hb.size
            clear hb
            refine ⟨_, rfl, ?_⟩
            refine pl_take (.bool false) rfl (by kernel_rfl) (by kernel_rfl) (by kernel_rfl) (by kernel_rfl) ?_
            refine pl_take (.bool false) rfl (by kernel_rfl) (by kernel_rfl) (by kernel_rfl) (by kernel_rfl) ?_
            refine pl_skip rfl (by kernel_rfl) (by kernel_rfl) (by kernel_rfl) ?_
            refine pl_skip rfl (by kernel_rfl) (by kernel_rfl) (by kernel_rfl) ?_
            refine pl_skip rfl (by kernel_rfl) (by kernel_rfl) (by kernel_rfl) ?_
            refine pl_skip rfl (by kernel_rfl) (by kernel_rfl) (by kernel_rfl) ?_
            refine pl_skip rfl (by kernel_rfl) (by kernel_rfl) (by kernel_rfl) ?_
            refine pl_take (.bool false) rfl (by kernel_rfl) (by kernel_rfl) (by kernel_rfl) (by kernel_rfl) ?_
            refine pl_take (.bool false) rfl (by kernel_rfl) (by kernel_rfl) (by kernel_rfl) (by kernel_rfl) ?_
            refine pl_nil ?_
            refine qw_then ?_
            refine cw_clean [1, 3, 4] (ws' := [(1, .pointer (some ⟨O1, 0, none⟩)), (3, .bool true), (4, .bool false)]) (by kernel_rfl) (fun L => ?_)
            refine cw_seq ?_
            refine cw_plain ?_
            refine pl_take (.bool true) rfl (by kernel_rfl) (by kernel_rfl) (by kernel_rfl) (by kernel_rfl) ?_
            refine pl_take (.bool true) rfl (by kernel_rfl) (by kernel_rfl) (by kernel_rfl) (by kernel_rfl) ?_
            refine pl_take (.bool false) rfl (by kernel_rfl) (by kernel_rfl) (by kernel_rfl) (by kernel_rfl) ?_
            refine pl_take (.bool false) rfl (by kernel_rfl) (by kernel_rfl) (by kernel_rfl) (by kernel_rfl) ?_
            refine pl_take (.bool false) rfl (by kernel_rfl) (by kernel_rfl) (by kernel_rfl) (by kernel_rfl) ?_
            refine pl_skip rfl (by kernel_rfl) (by kernel_rfl) (by kernel_rfl) ?_
            refine pl_skip rfl (by kernel_rfl) (by kernel_rfl) (by kernel_rfl) ?_
            refine pl_skip rfl (by kernel_rfl) (by kernel_rfl) (by kernel_rfl) ?_
            refine pl_take (.bool false) rfl (by kernel_rfl) (by kernel_rfl) (by kernel_rfl) (by kernel_rfl) ?_
            refine pl_take (.bool false) rfl (by kernel_rfl) (by kernel_rfl) (by kernel_rfl) (by kernel_rfl) ?_
            refine pl_skip rfl (by kernel_rfl) (by kernel_rfl) (by kernel_rfl) ?_
            refine pl_skip rfl (by kernel_rfl) (by kernel_rfl) (by kernel_rfl) ?_
            refine pl_skip rfl (by kernel_rfl) (by kernel_rfl) (by kernel_rfl) ?_
            refine pl_take (.bool false) rfl (by kernel_rfl) (by kernel_rfl) (by kernel_rfl) (by kernel_rfl) ?_
            refine pl_take (.bool false) rfl (by kernel_rfl) (by kernel_rfl) (by kernel_rfl) (by kernel_rfl) ?_
            refine pl_skip rfl (by kernel_rfl) (by kernel_rfl) (by kernel_rfl) ?_
            refine pl_skip rfl (by kernel_rfl) (by kernel_rfl) (by kernel_rfl) ?_
            refine pl_skip rfl (by kernel_rfl) (by kernel_rfl) (by kernel_rfl) ?_
            refine pl_take (.bool false) rfl (by kernel_rfl) (by kernel_rfl) (by kernel_rfl) (by kernel_rfl) ?_
            refine pl_take (.bool false) rfl (by kernel_rfl) (by kernel_rfl) (by kernel_rfl) (by kernel_rfl) ?_
            refine pl_nil ?_
            refine qw_then ?_
            refine cw_clean [2] (ws' := [(2, .bool false)]) (by kernel_rfl) (fun L => ?_)
            refine cw_ret ?_
            refine qw_ret [.bool false] rfl ⟨(by kernel_rfl), trivial⟩ ?_
            exact ⟨congrArg (fun b => Ending.returned (Value.bool b)) (show Orb.ok o = false by simp [Orb.ok, hb6, hb11, hb15, hb19, hc10]).symm, hE⟩
        ·
          refine pl_step rfl (by kernel_rfl) (by kernel_rfl) (by kernel_rfl) (sn_call (f := 87) (args := #[.int .i64 (o.lo : Int), .int .i64 0, .int .i64 23999]) (by kernel_rfl) ((orbit_in_r (r := false) o.lo 0 23999 _ (hb15)).mono ?_))
          rintro e w44 ⟨rfl, hb⟩
          replace hE := hE.trans hb
          replace hX5 := hX5.trans hb
          have hs45 := hb.size
          clear hb
          refine ⟨_, rfl, ?_⟩
          refine pl_take (.bool false) rfl (by kernel_rfl) (by kernel_rfl) (by kernel_rfl) (by kernel_rfl) ?_
          refine pl_skip rfl (by kernel_rfl) (by kernel_rfl) (by kernel_rfl) ?_
          refine pl_skip rfl (by kernel_rfl) (by kernel_rfl) (by kernel_rfl) ?_
          refine pl_skip rfl (by kernel_rfl) (by kernel_rfl) (by kernel_rfl) ?_
          refine pl_take (.bool false) rfl (by kernel_rfl) (by kernel_rfl) (by kernel_rfl) (by kernel_rfl) ?_
          refine pl_take (.bool false) rfl (by kernel_rfl) (by kernel_rfl) (by kernel_rfl) (by kernel_rfl) ?_
          refine pl_skip rfl (by kernel_rfl) (by kernel_rfl) (by kernel_rfl) ?_
          refine pl_skip rfl (by kernel_rfl) (by kernel_rfl) (by kernel_rfl) ?_
          refine pl_skip rfl (by kernel_rfl) (by kernel_rfl) (by kernel_rfl) ?_
          refine pl_skip rfl (by kernel_rfl) (by kernel_rfl) (by kernel_rfl) ?_
          refine pl_skip rfl (by kernel_rfl) (by kernel_rfl) (by kernel_rfl) ?_
          refine pl_take (.bool false) rfl (by kernel_rfl) (by kernel_rfl) (by kernel_rfl) (by kernel_rfl) ?_
          refine pl_take (.bool false) rfl (by kernel_rfl) (by kernel_rfl) (by kernel_rfl) (by kernel_rfl) ?_
          refine pl_nil ?_
          refine qw_then ?_
          refine cw_clean [1, 3, 4] (ws' := [(1, .pointer (some ⟨O1, 0, none⟩)), (3, .bool true), (4, .bool false)]) (by kernel_rfl) (fun L => ?_)
          refine cw_seq ?_
          refine cw_plain ?_
          refine pl_take (.bool true) rfl (by kernel_rfl) (by kernel_rfl) (by kernel_rfl) (by kernel_rfl) ?_
          refine pl_take (.bool true) rfl (by kernel_rfl) (by kernel_rfl) (by kernel_rfl) (by kernel_rfl) ?_
          refine pl_take (.bool false) rfl (by kernel_rfl) (by kernel_rfl) (by kernel_rfl) (by kernel_rfl) ?_
          refine pl_take (.bool false) rfl (by kernel_rfl) (by kernel_rfl) (by kernel_rfl) (by kernel_rfl) ?_
          refine pl_take (.bool false) rfl (by kernel_rfl) (by kernel_rfl) (by kernel_rfl) (by kernel_rfl) ?_
          refine pl_skip rfl (by kernel_rfl) (by kernel_rfl) (by kernel_rfl) ?_
          refine pl_skip rfl (by kernel_rfl) (by kernel_rfl) (by kernel_rfl) ?_
          refine pl_skip rfl (by kernel_rfl) (by kernel_rfl) (by kernel_rfl) ?_
          refine pl_take (.bool false) rfl (by kernel_rfl) (by kernel_rfl) (by kernel_rfl) (by kernel_rfl) ?_
          refine pl_take (.bool false) rfl (by kernel_rfl) (by kernel_rfl) (by kernel_rfl) (by kernel_rfl) ?_
          refine pl_skip rfl (by kernel_rfl) (by kernel_rfl) (by kernel_rfl) ?_
          refine pl_skip rfl (by kernel_rfl) (by kernel_rfl) (by kernel_rfl) ?_
          refine pl_skip rfl (by kernel_rfl) (by kernel_rfl) (by kernel_rfl) ?_
          refine pl_take (.bool false) rfl (by kernel_rfl) (by kernel_rfl) (by kernel_rfl) (by kernel_rfl) ?_
          refine pl_take (.bool false) rfl (by kernel_rfl) (by kernel_rfl) (by kernel_rfl) (by kernel_rfl) ?_
          refine pl_skip rfl (by kernel_rfl) (by kernel_rfl) (by kernel_rfl) ?_
          refine pl_skip rfl (by kernel_rfl) (by kernel_rfl) (by kernel_rfl) ?_
          refine pl_skip rfl (by kernel_rfl) (by kernel_rfl) (by kernel_rfl) ?_
          refine pl_take (.bool false) rfl (by kernel_rfl) (by kernel_rfl) (by kernel_rfl) (by kernel_rfl) ?_
          refine pl_take (.bool false) rfl (by kernel_rfl) (by kernel_rfl) (by kernel_rfl) (by kernel_rfl) ?_
          refine pl_nil ?_
          refine qw_then ?_
          refine cw_clean [2] (ws' := [(2, .bool false)]) (by kernel_rfl) (fun L => ?_)
          refine cw_ret ?_
          refine qw_ret [.bool false] rfl ⟨(by kernel_rfl), trivial⟩ ?_
          exact ⟨congrArg (fun b => Ending.returned (Value.bool b)) (show Orb.ok o = false by simp [Orb.ok, hb6, hb11, hb15, hc10]).symm, hE⟩
      ·
        refine pl_step rfl (by kernel_rfl) (by kernel_rfl) (by kernel_rfl) (sn_call (f := 87) (args := #[.int .i64 (o.f : Int), .int .i64 0, .int .i64 (o.p - 1 : Int)]) (by kernel_rfl) ((orbit_in_r (r := false) o.f 0 (o.p - 1) _ (hb11)).mono ?_))
        rintro e w46 ⟨rfl, hb⟩
        replace hE := hE.trans hb
        replace hX5 := hX5.trans hb
        have hs47 := hb.size
        clear hb
        refine ⟨_, rfl, ?_⟩
        refine pl_take (.bool false) rfl (by kernel_rfl) (by kernel_rfl) (by kernel_rfl) (by kernel_rfl) ?_
        refine pl_take (.bool false) rfl (by kernel_rfl) (by kernel_rfl) (by kernel_rfl) (by kernel_rfl) ?_
        refine pl_nil ?_
        refine qw_then ?_
        refine cw_clean [1, 3] (ws' := [(1, .pointer (some ⟨O1, 0, none⟩)), (3, .bool false)]) (by kernel_rfl) (fun L => ?_)
        refine cw_seq ?_
        refine cw_plain ?_
        refine pl_take (.pointer (some ⟨O1, 2, none⟩)) rfl (by kernel_rfl) (by kernel_rfl) (by kernel_rfl) (by kernel_rfl) ?_
        refine pl_take (.int .i64 (o.lo : Int)) rfl (by kernel_rfl) (by kernel_rfl) (by kernel_rfl) (ex_load rfl (by kernel_rfl) (ld3 ((BoxAt.ext hX5 bO1_2).1))) ?_
        rcases Bool.eq_false_or_eq_true (Globe.inB o.lo 0 23999) with hb48 | hb48
        ·
          have hq49 := Globe.inB_t.1 hb48
          refine pl_step rfl (by kernel_rfl) (by kernel_rfl) (by kernel_rfl) (sn_call (f := 87) (args := #[.int .i64 (o.lo : Int), .int .i64 0, .int .i64 23999]) (by kernel_rfl) ((orbit_in_r (r := true) o.lo 0 23999 _ (hb48)).mono ?_))
          rintro e w50 ⟨rfl, hb⟩
          replace hE := hE.trans hb
          replace hX5 := hX5.trans hb
          have hs51 := hb.size
          clear hb
          refine ⟨_, rfl, ?_⟩
          refine pl_take (.bool true) rfl (by kernel_rfl) (by kernel_rfl) (by kernel_rfl) (by kernel_rfl) ?_
          refine pl_take (.pointer (some ⟨O1, 3, none⟩)) rfl (by kernel_rfl) (by kernel_rfl) (by kernel_rfl) (by kernel_rfl) ?_
          refine pl_take (.int .i64 (o.hi : Int)) rfl (by kernel_rfl) (by kernel_rfl) (by kernel_rfl) (ex_load rfl (by kernel_rfl) (ld3 ((BoxAt.ext hX5 bO1_3).1))) ?_
          rcases Bool.eq_false_or_eq_true (Globe.inB o.hi 0 23999) with hb52 | hb52
          ·
            have hq53 := Globe.inB_t.1 hb52
            refine pl_step rfl (by kernel_rfl) (by kernel_rfl) (by kernel_rfl) (sn_call (f := 87) (args := #[.int .i64 (o.hi : Int), .int .i64 0, .int .i64 23999]) (by kernel_rfl) ((orbit_in_r (r := true) o.hi 0 23999 _ (hb52)).mono ?_))
            rintro e w54 ⟨rfl, hb⟩
            replace hE := hE.trans hb
            replace hX5 := hX5.trans hb
            have hs55 := hb.size
            clear hb
            refine ⟨_, rfl, ?_⟩
            refine pl_take (.bool true) rfl (by kernel_rfl) (by kernel_rfl) (by kernel_rfl) (by kernel_rfl) ?_
            refine pl_take (.bool true) rfl (by kernel_rfl) (by kernel_rfl) (by kernel_rfl) (by kernel_rfl) ?_
            refine pl_take (.pointer (some ⟨O1, 2, none⟩)) rfl (by kernel_rfl) (by kernel_rfl) (by kernel_rfl) (by kernel_rfl) ?_
            refine pl_take (.int .i64 (o.lo : Int)) rfl (by kernel_rfl) (by kernel_rfl) (by kernel_rfl) (ex_load rfl (by kernel_rfl) (ld3 ((BoxAt.ext hX5 bO1_2).1))) ?_
            refine pl_take (.pointer (some ⟨O1, 3, none⟩)) rfl (by kernel_rfl) (by kernel_rfl) (by kernel_rfl) (by kernel_rfl) ?_
            refine pl_take (.int .i64 (o.hi : Int)) rfl (by kernel_rfl) (by kernel_rfl) (by kernel_rfl) (ex_load rfl (by kernel_rfl) (ld3 ((BoxAt.ext hX5 bO1_3).1))) ?_
            by_cases hc56 : (o.lo : Int) < (o.hi : Int)
            ·
              refine pl_take (.bool true) rfl (by kernel_rfl) (by kernel_rfl) (by kernel_rfl) (ev_dec (show _ = Result.ok (Next.value (Value.bool (decide ((o.lo : Int) < (o.hi : Int))))) _ from by kernel_rfl) (hc56)) ?_
              refine pl_take (.bool true) rfl (by kernel_rfl) (by kernel_rfl) (by kernel_rfl) (by kernel_rfl) ?_
              refine pl_take (.bool true) rfl (by kernel_rfl) (by kernel_rfl) (by kernel_rfl) (by kernel_rfl) ?_
              refine pl_nil ?_
              refine qw_then ?_
              refine cw_clean [1, 3, 4] (ws' := [(1, .pointer (some ⟨O1, 0, none⟩)), (3, .bool false), (4, .bool true)]) (by kernel_rfl) (fun L => ?_)
              refine cw_seq ?_
              refine cw_plain ?_
              refine pl_take (.bool false) rfl (by kernel_rfl) (by kernel_rfl) (by kernel_rfl) (by kernel_rfl) ?_
              refine pl_take (.bool false) rfl (by kernel_rfl) (by kernel_rfl) (by kernel_rfl) (by kernel_rfl) ?_
              refine pl_skip rfl (by kernel_rfl) (by kernel_rfl) (by kernel_rfl) ?_
              refine pl_take (.bool false) rfl (by kernel_rfl) (by kernel_rfl) (by kernel_rfl) (by kernel_rfl) ?_
              refine pl_take (.bool false) rfl (by kernel_rfl) (by kernel_rfl) (by kernel_rfl) (by kernel_rfl) ?_
              refine pl_skip rfl (by kernel_rfl) (by kernel_rfl) (by kernel_rfl) ?_
              refine pl_skip rfl (by kernel_rfl) (by kernel_rfl) (by kernel_rfl) ?_
              refine pl_skip rfl (by kernel_rfl) (by kernel_rfl) (by kernel_rfl) ?_
              refine pl_take (.bool false) rfl (by kernel_rfl) (by kernel_rfl) (by kernel_rfl) (by kernel_rfl) ?_
              refine pl_take (.bool false) rfl (by kernel_rfl) (by kernel_rfl) (by kernel_rfl) (by kernel_rfl) ?_
              refine pl_skip rfl (by kernel_rfl) (by kernel_rfl) (by kernel_rfl) ?_
              refine pl_skip rfl (by kernel_rfl) (by kernel_rfl) (by kernel_rfl) ?_
              refine pl_skip rfl (by kernel_rfl) (by kernel_rfl) (by kernel_rfl) ?_
              refine pl_take (.bool false) rfl (by kernel_rfl) (by kernel_rfl) (by kernel_rfl) (by kernel_rfl) ?_
              refine pl_take (.bool false) rfl (by kernel_rfl) (by kernel_rfl) (by kernel_rfl) (by kernel_rfl) ?_
              refine pl_skip rfl (by kernel_rfl) (by kernel_rfl) (by kernel_rfl) ?_
              refine pl_skip rfl (by kernel_rfl) (by kernel_rfl) (by kernel_rfl) ?_
              refine pl_skip rfl (by kernel_rfl) (by kernel_rfl) (by kernel_rfl) ?_
              refine pl_take (.bool false) rfl (by kernel_rfl) (by kernel_rfl) (by kernel_rfl) (by kernel_rfl) ?_
              refine pl_take (.bool false) rfl (by kernel_rfl) (by kernel_rfl) (by kernel_rfl) (by kernel_rfl) ?_
              refine pl_nil ?_
              refine qw_then ?_
              refine cw_clean [2] (ws' := [(2, .bool false)]) (by kernel_rfl) (fun L => ?_)
              refine cw_ret ?_
              refine qw_ret [.bool false] rfl ⟨(by kernel_rfl), trivial⟩ ?_
              exact ⟨congrArg (fun b => Ending.returned (Value.bool b)) (show Orb.ok o = false by simp [Orb.ok, hb6, hb11, hb48, hb52, hc10, hc56]).symm, hE⟩
            ·
              refine pl_take (.bool false) rfl (by kernel_rfl) (by kernel_rfl) (by kernel_rfl) (ev_ndec (show _ = Result.ok (Next.value (Value.bool (decide ((o.lo : Int) < (o.hi : Int))))) _ from by kernel_rfl) (hc56)) ?_
              refine pl_take (.bool false) rfl (by kernel_rfl) (by kernel_rfl) (by kernel_rfl) (by kernel_rfl) ?_
              refine pl_take (.bool false) rfl (by kernel_rfl) (by kernel_rfl) (by kernel_rfl) (by kernel_rfl) ?_
              refine pl_nil ?_
              refine qw_then ?_
              refine cw_clean [1, 3, 4] (ws' := [(1, .pointer (some ⟨O1, 0, none⟩)), (3, .bool false), (4, .bool false)]) (by kernel_rfl) (fun L => ?_)
              refine cw_seq ?_
              refine cw_plain ?_
              refine pl_take (.bool false) rfl (by kernel_rfl) (by kernel_rfl) (by kernel_rfl) (by kernel_rfl) ?_
              refine pl_take (.bool false) rfl (by kernel_rfl) (by kernel_rfl) (by kernel_rfl) (by kernel_rfl) ?_
              refine pl_skip rfl (by kernel_rfl) (by kernel_rfl) (by kernel_rfl) ?_
              refine pl_take (.bool false) rfl (by kernel_rfl) (by kernel_rfl) (by kernel_rfl) (by kernel_rfl) ?_
              refine pl_take (.bool false) rfl (by kernel_rfl) (by kernel_rfl) (by kernel_rfl) (by kernel_rfl) ?_
              refine pl_skip rfl (by kernel_rfl) (by kernel_rfl) (by kernel_rfl) ?_
              refine pl_skip rfl (by kernel_rfl) (by kernel_rfl) (by kernel_rfl) ?_
              refine pl_skip rfl (by kernel_rfl) (by kernel_rfl) (by kernel_rfl) ?_
              refine pl_take (.bool false) rfl (by kernel_rfl) (by kernel_rfl) (by kernel_rfl) (by kernel_rfl) ?_
              refine pl_take (.bool false) rfl (by kernel_rfl) (by kernel_rfl) (by kernel_rfl) (by kernel_rfl) ?_
              refine pl_skip rfl (by kernel_rfl) (by kernel_rfl) (by kernel_rfl) ?_
              refine pl_skip rfl (by kernel_rfl) (by kernel_rfl) (by kernel_rfl) ?_
              refine pl_skip rfl (by kernel_rfl) (by kernel_rfl) (by kernel_rfl) ?_
              refine pl_take (.bool false) rfl (by kernel_rfl) (by kernel_rfl) (by kernel_rfl) (by kernel_rfl) ?_
              refine pl_take (.bool false) rfl (by kernel_rfl) (by kernel_rfl) (by kernel_rfl) (by kernel_rfl) ?_
              refine pl_skip rfl (by kernel_rfl) (by kernel_rfl) (by kernel_rfl) ?_
              refine pl_skip rfl (by kernel_rfl) (by kernel_rfl) (by kernel_rfl) ?_
              refine pl_skip rfl (by kernel_rfl) (by kernel_rfl) (by kernel_rfl) ?_
              refine pl_take (.bool false) rfl (by kernel_rfl) (by kernel_rfl) (by kernel_rfl) (by kernel_rfl) ?_
              refine pl_take (.bool false) rfl (by kernel_rfl) (by kernel_rfl) (by kernel_rfl) (by kernel_rfl) ?_
              refine pl_nil ?_
              refine qw_then ?_
              refine cw_clean [2] (ws' := [(2, .bool false)]) (by kernel_rfl) (fun L => ?_)
              refine cw_ret ?_
              refine qw_ret [.bool false] rfl ⟨(by kernel_rfl), trivial⟩ ?_
              exact ⟨congrArg (fun b => Ending.returned (Value.bool b)) (show Orb.ok o = false by simp [Orb.ok, hb6, hb11, hb48, hb52, hc10, hc56]).symm, hE⟩
          ·
            refine pl_step rfl (by kernel_rfl) (by kernel_rfl) (by kernel_rfl) (sn_call (f := 87) (args := #[.int .i64 (o.hi : Int), .int .i64 0, .int .i64 23999]) (by kernel_rfl) ((orbit_in_r (r := false) o.hi 0 23999 _ (hb52)).mono ?_))
            rintro e w57 ⟨rfl, hb⟩
            replace hE := hE.trans hb
            replace hX5 := hX5.trans hb
            have hs58 := hb.size
            clear hb
            refine ⟨_, rfl, ?_⟩
            refine pl_take (.bool false) rfl (by kernel_rfl) (by kernel_rfl) (by kernel_rfl) (by kernel_rfl) ?_
            refine pl_take (.bool false) rfl (by kernel_rfl) (by kernel_rfl) (by kernel_rfl) (by kernel_rfl) ?_
            refine pl_skip rfl (by kernel_rfl) (by kernel_rfl) (by kernel_rfl) ?_
            refine pl_skip rfl (by kernel_rfl) (by kernel_rfl) (by kernel_rfl) ?_
            refine pl_skip rfl (by kernel_rfl) (by kernel_rfl) (by kernel_rfl) ?_
            refine pl_skip rfl (by kernel_rfl) (by kernel_rfl) (by kernel_rfl) ?_
            refine pl_skip rfl (by kernel_rfl) (by kernel_rfl) (by kernel_rfl) ?_
            refine pl_take (.bool false) rfl (by kernel_rfl) (by kernel_rfl) (by kernel_rfl) (by kernel_rfl) ?_
            refine pl_take (.bool false) rfl (by kernel_rfl) (by kernel_rfl) (by kernel_rfl) (by kernel_rfl) ?_
            refine pl_nil ?_
            refine qw_then ?_
            refine cw_clean [1, 3, 4] (ws' := [(1, .pointer (some ⟨O1, 0, none⟩)), (3, .bool false), (4, .bool false)]) (by kernel_rfl) (fun L => ?_)
            refine cw_seq ?_
            refine cw_plain ?_
            refine pl_take (.bool false) rfl (by kernel_rfl) (by kernel_rfl) (by kernel_rfl) (by kernel_rfl) ?_
            refine pl_take (.bool false) rfl (by kernel_rfl) (by kernel_rfl) (by kernel_rfl) (by kernel_rfl) ?_
            refine pl_skip rfl (by kernel_rfl) (by kernel_rfl) (by kernel_rfl) ?_
            refine pl_take (.bool false) rfl (by kernel_rfl) (by kernel_rfl) (by kernel_rfl) (by kernel_rfl) ?_
            refine pl_take (.bool false) rfl (by kernel_rfl) (by kernel_rfl) (by kernel_rfl) (by kernel_rfl) ?_
            refine pl_skip rfl (by kernel_rfl) (by kernel_rfl) (by kernel_rfl) ?_
            refine pl_skip rfl (by kernel_rfl) (by kernel_rfl) (by kernel_rfl) ?_
            refine pl_skip rfl (by kernel_rfl) (by kernel_rfl) (by kernel_rfl) ?_
            refine pl_take (.bool false) rfl (by kernel_rfl) (by kernel_rfl) (by kernel_rfl) (by kernel_rfl) ?_
            refine pl_take (.bool false) rfl (by kernel_rfl) (by kernel_rfl) (by kernel_rfl) (by kernel_rfl) ?_
            refine pl_skip rfl (by kernel_rfl) (by kernel_rfl) (by kernel_rfl) ?_
            refine pl_skip rfl (by kernel_rfl) (by kernel_rfl) (by kernel_rfl) ?_
            refine pl_skip rfl (by kernel_rfl) (by kernel_rfl) (by kernel_rfl) ?_
            refine pl_take (.bool false) rfl (by kernel_rfl) (by kernel_rfl) (by kernel_rfl) (by kernel_rfl) ?_
            refine pl_take (.bool false) rfl (by kernel_rfl) (by kernel_rfl) (by kernel_rfl) (by kernel_rfl) ?_
            refine pl_skip rfl (by kernel_rfl) (by kernel_rfl) (by kernel_rfl) ?_
            refine pl_skip rfl (by kernel_rfl) (by kernel_rfl) (by kernel_rfl) ?_
            refine pl_skip rfl (by kernel_rfl) (by kernel_rfl) (by kernel_rfl) ?_
            refine pl_take (.bool false) rfl (by kernel_rfl) (by kernel_rfl) (by kernel_rfl) (by kernel_rfl) ?_
            refine pl_take (.bool false) rfl (by kernel_rfl) (by kernel_rfl) (by kernel_rfl) (by kernel_rfl) ?_
            refine pl_nil ?_
            refine qw_then ?_
            refine cw_clean [2] (ws' := [(2, .bool false)]) (by kernel_rfl) (fun L => ?_)
            refine cw_ret ?_
            refine qw_ret [.bool false] rfl ⟨(by kernel_rfl), trivial⟩ ?_
            exact ⟨congrArg (fun b => Ending.returned (Value.bool b)) (show Orb.ok o = false by simp [Orb.ok, hb6, hb11, hb48, hb52, hc10]).symm, hE⟩
        ·
          refine pl_step rfl (by kernel_rfl) (by kernel_rfl) (by kernel_rfl) (sn_call (f := 87) (args := #[.int .i64 (o.lo : Int), .int .i64 0, .int .i64 23999]) (by kernel_rfl) ((orbit_in_r (r := false) o.lo 0 23999 _ (hb48)).mono ?_))
          rintro e w59 ⟨rfl, hb⟩
          replace hE := hE.trans hb
          replace hX5 := hX5.trans hb
          have hs60 := hb.size
          clear hb
          refine ⟨_, rfl, ?_⟩
          refine pl_take (.bool false) rfl (by kernel_rfl) (by kernel_rfl) (by kernel_rfl) (by kernel_rfl) ?_
          refine pl_skip rfl (by kernel_rfl) (by kernel_rfl) (by kernel_rfl) ?_
          refine pl_skip rfl (by kernel_rfl) (by kernel_rfl) (by kernel_rfl) ?_
          refine pl_skip rfl (by kernel_rfl) (by kernel_rfl) (by kernel_rfl) ?_
          refine pl_take (.bool false) rfl (by kernel_rfl) (by kernel_rfl) (by kernel_rfl) (by kernel_rfl) ?_
          refine pl_take (.bool false) rfl (by kernel_rfl) (by kernel_rfl) (by kernel_rfl) (by kernel_rfl) ?_
          refine pl_skip rfl (by kernel_rfl) (by kernel_rfl) (by kernel_rfl) ?_
          refine pl_skip rfl (by kernel_rfl) (by kernel_rfl) (by kernel_rfl) ?_
          refine pl_skip rfl (by kernel_rfl) (by kernel_rfl) (by kernel_rfl) ?_
          refine pl_skip rfl (by kernel_rfl) (by kernel_rfl) (by kernel_rfl) ?_
          refine pl_skip rfl (by kernel_rfl) (by kernel_rfl) (by kernel_rfl) ?_
          refine pl_take (.bool false) rfl (by kernel_rfl) (by kernel_rfl) (by kernel_rfl) (by kernel_rfl) ?_
          refine pl_take (.bool false) rfl (by kernel_rfl) (by kernel_rfl) (by kernel_rfl) (by kernel_rfl) ?_
          refine pl_nil ?_
          refine qw_then ?_
          refine cw_clean [1, 3, 4] (ws' := [(1, .pointer (some ⟨O1, 0, none⟩)), (3, .bool false), (4, .bool false)]) (by kernel_rfl) (fun L => ?_)
          refine cw_seq ?_
          refine cw_plain ?_
          refine pl_take (.bool false) rfl (by kernel_rfl) (by kernel_rfl) (by kernel_rfl) (by kernel_rfl) ?_
          refine pl_take (.bool false) rfl (by kernel_rfl) (by kernel_rfl) (by kernel_rfl) (by kernel_rfl) ?_
          refine pl_skip rfl (by kernel_rfl) (by kernel_rfl) (by kernel_rfl) ?_
          refine pl_take (.bool false) rfl (by kernel_rfl) (by kernel_rfl) (by kernel_rfl) (by kernel_rfl) ?_
          refine pl_take (.bool false) rfl (by kernel_rfl) (by kernel_rfl) (by kernel_rfl) (by kernel_rfl) ?_
          refine pl_skip rfl (by kernel_rfl) (by kernel_rfl) (by kernel_rfl) ?_
          refine pl_skip rfl (by kernel_rfl) (by kernel_rfl) (by kernel_rfl) ?_
          refine pl_skip rfl (by kernel_rfl) (by kernel_rfl) (by kernel_rfl) ?_
          refine pl_take (.bool false) rfl (by kernel_rfl) (by kernel_rfl) (by kernel_rfl) (by kernel_rfl) ?_
          refine pl_take (.bool false) rfl (by kernel_rfl) (by kernel_rfl) (by kernel_rfl) (by kernel_rfl) ?_
          refine pl_skip rfl (by kernel_rfl) (by kernel_rfl) (by kernel_rfl) ?_
          refine pl_skip rfl (by kernel_rfl) (by kernel_rfl) (by kernel_rfl) ?_
          refine pl_skip rfl (by kernel_rfl) (by kernel_rfl) (by kernel_rfl) ?_
          refine pl_take (.bool false) rfl (by kernel_rfl) (by kernel_rfl) (by kernel_rfl) (by kernel_rfl) ?_
          refine pl_take (.bool false) rfl (by kernel_rfl) (by kernel_rfl) (by kernel_rfl) (by kernel_rfl) ?_
          refine pl_skip rfl (by kernel_rfl) (by kernel_rfl) (by kernel_rfl) ?_
          refine pl_skip rfl (by kernel_rfl) (by kernel_rfl) (by kernel_rfl) ?_
          refine pl_skip rfl (by kernel_rfl) (by kernel_rfl) (by kernel_rfl) ?_
          refine pl_take (.bool false) rfl (by kernel_rfl) (by kernel_rfl) (by kernel_rfl) (by kernel_rfl) ?_
          refine pl_take (.bool false) rfl (by kernel_rfl) (by kernel_rfl) (by kernel_rfl) (by kernel_rfl) ?_
          refine pl_nil ?_
          refine qw_then ?_
          refine cw_clean [2] (ws' := [(2, .bool false)]) (by kernel_rfl) (fun L => ?_)
          refine cw_ret ?_
          refine qw_ret [.bool false] rfl ⟨(by kernel_rfl), trivial⟩ ?_
          exact ⟨congrArg (fun b => Ending.returned (Value.bool b)) (show Orb.ok o = false by simp [Orb.ok, hb6, hb11, hb48, hc10]).symm, hE⟩
    ·
      refine pl_take (.bool false) rfl (by kernel_rfl) (by kernel_rfl) (by kernel_rfl) (ev_neq (show _ = Result.ok (Next.value (Value.bool (((o.p : Int).tmod 2 : Int) == (0 : Int)))) _ from by kernel_rfl) (hc10)) ?_
      refine pl_take (.bool false) rfl (by kernel_rfl) (by kernel_rfl) (by kernel_rfl) (by kernel_rfl) ?_
      refine pl_take (.bool false) rfl (by kernel_rfl) (by kernel_rfl) (by kernel_rfl) (by kernel_rfl) ?_
      refine pl_skip rfl (by kernel_rfl) (by kernel_rfl) (by kernel_rfl) ?_
      refine pl_skip rfl (by kernel_rfl) (by kernel_rfl) (by kernel_rfl) ?_
      refine pl_skip rfl (by kernel_rfl) (by kernel_rfl) (by kernel_rfl) ?_
      refine pl_skip rfl (by kernel_rfl) (by kernel_rfl) (by kernel_rfl) ?_
      refine pl_skip rfl (by kernel_rfl) (by kernel_rfl) (by kernel_rfl) ?_
      refine pl_skip rfl (by kernel_rfl) (by kernel_rfl) (by kernel_rfl) ?_
      refine pl_take (.bool false) rfl (by kernel_rfl) (by kernel_rfl) (by kernel_rfl) (by kernel_rfl) ?_
      refine pl_take (.bool false) rfl (by kernel_rfl) (by kernel_rfl) (by kernel_rfl) (by kernel_rfl) ?_
      refine pl_nil ?_
      refine qw_then ?_
      refine cw_clean [1, 3] (ws' := [(1, .pointer (some ⟨O1, 0, none⟩)), (3, .bool false)]) (by kernel_rfl) (fun L => ?_)
      refine cw_seq ?_
      refine cw_plain ?_
      refine pl_take (.pointer (some ⟨O1, 2, none⟩)) rfl (by kernel_rfl) (by kernel_rfl) (by kernel_rfl) (by kernel_rfl) ?_
      refine pl_take (.int .i64 (o.lo : Int)) rfl (by kernel_rfl) (by kernel_rfl) (by kernel_rfl) (ex_load rfl (by kernel_rfl) (ld3 ((BoxAt.ext hX5 bO1_2).1))) ?_
      rcases Bool.eq_false_or_eq_true (Globe.inB o.lo 0 23999) with hb61 | hb61
      ·
        have hq62 := Globe.inB_t.1 hb61
        refine pl_step rfl (by kernel_rfl) (by kernel_rfl) (by kernel_rfl) (sn_call (f := 87) (args := #[.int .i64 (o.lo : Int), .int .i64 0, .int .i64 23999]) (by kernel_rfl) ((orbit_in_r (r := true) o.lo 0 23999 _ (hb61)).mono ?_))
        rintro e w63 ⟨rfl, hb⟩
        replace hE := hE.trans hb
        replace hX5 := hX5.trans hb
        have hs64 := hb.size
        clear hb
        refine ⟨_, rfl, ?_⟩
        refine pl_take (.bool true) rfl (by kernel_rfl) (by kernel_rfl) (by kernel_rfl) (by kernel_rfl) ?_
        refine pl_take (.pointer (some ⟨O1, 3, none⟩)) rfl (by kernel_rfl) (by kernel_rfl) (by kernel_rfl) (by kernel_rfl) ?_
        refine pl_take (.int .i64 (o.hi : Int)) rfl (by kernel_rfl) (by kernel_rfl) (by kernel_rfl) (ex_load rfl (by kernel_rfl) (ld3 ((BoxAt.ext hX5 bO1_3).1))) ?_
        rcases Bool.eq_false_or_eq_true (Globe.inB o.hi 0 23999) with hb65 | hb65
        ·
          have hq66 := Globe.inB_t.1 hb65
          refine pl_step rfl (by kernel_rfl) (by kernel_rfl) (by kernel_rfl) (sn_call (f := 87) (args := #[.int .i64 (o.hi : Int), .int .i64 0, .int .i64 23999]) (by kernel_rfl) ((orbit_in_r (r := true) o.hi 0 23999 _ (hb65)).mono ?_))
          rintro e w67 ⟨rfl, hb⟩
          replace hE := hE.trans hb
          replace hX5 := hX5.trans hb
          have hs68 := hb.size
          clear hb
          refine ⟨_, rfl, ?_⟩
          refine pl_take (.bool true) rfl (by kernel_rfl) (by kernel_rfl) (by kernel_rfl) (by kernel_rfl) ?_
          refine pl_take (.bool true) rfl (by kernel_rfl) (by kernel_rfl) (by kernel_rfl) (by kernel_rfl) ?_
          refine pl_take (.pointer (some ⟨O1, 2, none⟩)) rfl (by kernel_rfl) (by kernel_rfl) (by kernel_rfl) (by kernel_rfl) ?_
          refine pl_take (.int .i64 (o.lo : Int)) rfl (by kernel_rfl) (by kernel_rfl) (by kernel_rfl) (ex_load rfl (by kernel_rfl) (ld3 ((BoxAt.ext hX5 bO1_2).1))) ?_
          refine pl_take (.pointer (some ⟨O1, 3, none⟩)) rfl (by kernel_rfl) (by kernel_rfl) (by kernel_rfl) (by kernel_rfl) ?_
          refine pl_take (.int .i64 (o.hi : Int)) rfl (by kernel_rfl) (by kernel_rfl) (by kernel_rfl) (ex_load rfl (by kernel_rfl) (ld3 ((BoxAt.ext hX5 bO1_3).1))) ?_
          by_cases hc69 : (o.lo : Int) < (o.hi : Int)
          ·
            refine pl_take (.bool true) rfl (by kernel_rfl) (by kernel_rfl) (by kernel_rfl) (ev_dec (show _ = Result.ok (Next.value (Value.bool (decide ((o.lo : Int) < (o.hi : Int))))) _ from by kernel_rfl) (hc69)) ?_
            refine pl_take (.bool true) rfl (by kernel_rfl) (by kernel_rfl) (by kernel_rfl) (by kernel_rfl) ?_
            refine pl_take (.bool true) rfl (by kernel_rfl) (by kernel_rfl) (by kernel_rfl) (by kernel_rfl) ?_
            refine pl_nil ?_
            refine qw_then ?_
            refine cw_clean [1, 3, 4] (ws' := [(1, .pointer (some ⟨O1, 0, none⟩)), (3, .bool false), (4, .bool true)]) (by kernel_rfl) (fun L => ?_)
            refine cw_seq ?_
            refine cw_plain ?_
            refine pl_take (.bool false) rfl (by kernel_rfl) (by kernel_rfl) (by kernel_rfl) (by kernel_rfl) ?_
            refine pl_take (.bool false) rfl (by kernel_rfl) (by kernel_rfl) (by kernel_rfl) (by kernel_rfl) ?_
            refine pl_skip rfl (by kernel_rfl) (by kernel_rfl) (by kernel_rfl) ?_
            refine pl_take (.bool false) rfl (by kernel_rfl) (by kernel_rfl) (by kernel_rfl) (by kernel_rfl) ?_
            refine pl_take (.bool false) rfl (by kernel_rfl) (by kernel_rfl) (by kernel_rfl) (by kernel_rfl) ?_
            refine pl_skip rfl (by kernel_rfl) (by kernel_rfl) (by kernel_rfl) ?_
            refine pl_skip rfl (by kernel_rfl) (by kernel_rfl) (by kernel_rfl) ?_
            refine pl_skip rfl (by kernel_rfl) (by kernel_rfl) (by kernel_rfl) ?_
            refine pl_take (.bool false) rfl (by kernel_rfl) (by kernel_rfl) (by kernel_rfl) (by kernel_rfl) ?_
            refine pl_take (.bool false) rfl (by kernel_rfl) (by kernel_rfl) (by kernel_rfl) (by kernel_rfl) ?_
            refine pl_skip rfl (by kernel_rfl) (by kernel_rfl) (by kernel_rfl) ?_
            refine pl_skip rfl (by kernel_rfl) (by kernel_rfl) (by kernel_rfl) ?_
            refine pl_skip rfl (by kernel_rfl) (by kernel_rfl) (by kernel_rfl) ?_
            refine pl_take (.bool false) rfl (by kernel_rfl) (by kernel_rfl) (by kernel_rfl) (by kernel_rfl) ?_
            refine pl_take (.bool false) rfl (by kernel_rfl) (by kernel_rfl) (by kernel_rfl) (by kernel_rfl) ?_
            refine pl_skip rfl (by kernel_rfl) (by kernel_rfl) (by kernel_rfl) ?_
            refine pl_skip rfl (by kernel_rfl) (by kernel_rfl) (by kernel_rfl) ?_
            refine pl_skip rfl (by kernel_rfl) (by kernel_rfl) (by kernel_rfl) ?_
            refine pl_take (.bool false) rfl (by kernel_rfl) (by kernel_rfl) (by kernel_rfl) (by kernel_rfl) ?_
            refine pl_take (.bool false) rfl (by kernel_rfl) (by kernel_rfl) (by kernel_rfl) (by kernel_rfl) ?_
            refine pl_nil ?_
            refine qw_then ?_
            refine cw_clean [2] (ws' := [(2, .bool false)]) (by kernel_rfl) (fun L => ?_)
            refine cw_ret ?_
            refine qw_ret [.bool false] rfl ⟨(by kernel_rfl), trivial⟩ ?_
            exact ⟨congrArg (fun b => Ending.returned (Value.bool b)) (show Orb.ok o = false by simp [Orb.ok, hb6, hb61, hb65, hc10, hc69]).symm, hE⟩
          ·
            refine pl_take (.bool false) rfl (by kernel_rfl) (by kernel_rfl) (by kernel_rfl) (ev_ndec (show _ = Result.ok (Next.value (Value.bool (decide ((o.lo : Int) < (o.hi : Int))))) _ from by kernel_rfl) (hc69)) ?_
            refine pl_take (.bool false) rfl (by kernel_rfl) (by kernel_rfl) (by kernel_rfl) (by kernel_rfl) ?_
            refine pl_take (.bool false) rfl (by kernel_rfl) (by kernel_rfl) (by kernel_rfl) (by kernel_rfl) ?_
            refine pl_nil ?_
            refine qw_then ?_
            refine cw_clean [1, 3, 4] (ws' := [(1, .pointer (some ⟨O1, 0, none⟩)), (3, .bool false), (4, .bool false)]) (by kernel_rfl) (fun L => ?_)
            refine cw_seq ?_
            refine cw_plain ?_
            refine pl_take (.bool false) rfl (by kernel_rfl) (by kernel_rfl) (by kernel_rfl) (by kernel_rfl) ?_
            refine pl_take (.bool false) rfl (by kernel_rfl) (by kernel_rfl) (by kernel_rfl) (by kernel_rfl) ?_
            refine pl_skip rfl (by kernel_rfl) (by kernel_rfl) (by kernel_rfl) ?_
            refine pl_take (.bool false) rfl (by kernel_rfl) (by kernel_rfl) (by kernel_rfl) (by kernel_rfl) ?_
            refine pl_take (.bool false) rfl (by kernel_rfl) (by kernel_rfl) (by kernel_rfl) (by kernel_rfl) ?_
            refine pl_skip rfl (by kernel_rfl) (by kernel_rfl) (by kernel_rfl) ?_
            refine pl_skip rfl (by kernel_rfl) (by kernel_rfl) (by kernel_rfl) ?_
            refine pl_skip rfl (by kernel_rfl) (by kernel_rfl) (by kernel_rfl) ?_
            refine pl_take (.bool false) rfl (by kernel_rfl) (by kernel_rfl) (by kernel_rfl) (by kernel_rfl) ?_
            refine pl_take (.bool false) rfl (by kernel_rfl) (by kernel_rfl) (by kernel_rfl) (by kernel_rfl) ?_
            refine pl_skip rfl (by kernel_rfl) (by kernel_rfl) (by kernel_rfl) ?_
            refine pl_skip rfl (by kernel_rfl) (by kernel_rfl) (by kernel_rfl) ?_
            refine pl_skip rfl (by kernel_rfl) (by kernel_rfl) (by kernel_rfl) ?_
            refine pl_take (.bool false) rfl (by kernel_rfl) (by kernel_rfl) (by kernel_rfl) (by kernel_rfl) ?_
            refine pl_take (.bool false) rfl (by kernel_rfl) (by kernel_rfl) (by kernel_rfl) (by kernel_rfl) ?_
            refine pl_skip rfl (by kernel_rfl) (by kernel_rfl) (by kernel_rfl) ?_
            refine pl_skip rfl (by kernel_rfl) (by kernel_rfl) (by kernel_rfl) ?_
            refine pl_skip rfl (by kernel_rfl) (by kernel_rfl) (by kernel_rfl) ?_
            refine pl_take (.bool false) rfl (by kernel_rfl) (by kernel_rfl) (by kernel_rfl) (by kernel_rfl) ?_
            refine pl_take (.bool false) rfl (by kernel_rfl) (by kernel_rfl) (by kernel_rfl) (by kernel_rfl) ?_
            refine pl_nil ?_
            refine qw_then ?_
            refine cw_clean [2] (ws' := [(2, .bool false)]) (by kernel_rfl) (fun L => ?_)
            refine cw_ret ?_
            refine qw_ret [.bool false] rfl ⟨(by kernel_rfl), trivial⟩ ?_
            exact ⟨congrArg (fun b => Ending.returned (Value.bool b)) (show Orb.ok o = false by simp [Orb.ok, hb6, hb61, hb65, hc69]).symm, hE⟩
        ·
          refine pl_step rfl (by kernel_rfl) (by kernel_rfl) (by kernel_rfl) (sn_call (f := 87) (args := #[.int .i64 (o.hi : Int), .int .i64 0, .int .i64 23999]) (by kernel_rfl) ((orbit_in_r (r := false) o.hi 0 23999 _ (hb65)).mono ?_))
          rintro e w70 ⟨rfl, hb⟩
          replace hE := hE.trans hb
          replace hX5 := hX5.trans hb
          have hs71 := hb.size
          clear hb
          refine ⟨_, rfl, ?_⟩
          refine pl_take (.bool false) rfl (by kernel_rfl) (by kernel_rfl) (by kernel_rfl) (by kernel_rfl) ?_
          refine pl_take (.bool false) rfl (by kernel_rfl) (by kernel_rfl) (by kernel_rfl) (by kernel_rfl) ?_
          refine pl_skip rfl (by kernel_rfl) (by kernel_rfl) (by kernel_rfl) ?_
          refine pl_skip rfl (by kernel_rfl) (by kernel_rfl) (by kernel_rfl) ?_
          refine pl_skip rfl (by kernel_rfl) (by kernel_rfl) (by kernel_rfl) ?_
          refine pl_skip rfl (by kernel_rfl) (by kernel_rfl) (by kernel_rfl) ?_
          refine pl_skip rfl (by kernel_rfl) (by kernel_rfl) (by kernel_rfl) ?_
          refine pl_take (.bool false) rfl (by kernel_rfl) (by kernel_rfl) (by kernel_rfl) (by kernel_rfl) ?_
          refine pl_take (.bool false) rfl (by kernel_rfl) (by kernel_rfl) (by kernel_rfl) (by kernel_rfl) ?_
          refine pl_nil ?_
          refine qw_then ?_
          refine cw_clean [1, 3, 4] (ws' := [(1, .pointer (some ⟨O1, 0, none⟩)), (3, .bool false), (4, .bool false)]) (by kernel_rfl) (fun L => ?_)
          refine cw_seq ?_
          refine cw_plain ?_
          refine pl_take (.bool false) rfl (by kernel_rfl) (by kernel_rfl) (by kernel_rfl) (by kernel_rfl) ?_
          refine pl_take (.bool false) rfl (by kernel_rfl) (by kernel_rfl) (by kernel_rfl) (by kernel_rfl) ?_
          refine pl_skip rfl (by kernel_rfl) (by kernel_rfl) (by kernel_rfl) ?_
          refine pl_take (.bool false) rfl (by kernel_rfl) (by kernel_rfl) (by kernel_rfl) (by kernel_rfl) ?_
          refine pl_take (.bool false) rfl (by kernel_rfl) (by kernel_rfl) (by kernel_rfl) (by kernel_rfl) ?_
          refine pl_skip rfl (by kernel_rfl) (by kernel_rfl) (by kernel_rfl) ?_
          refine pl_skip rfl (by kernel_rfl) (by kernel_rfl) (by kernel_rfl) ?_
          refine pl_skip rfl (by kernel_rfl) (by kernel_rfl) (by kernel_rfl) ?_
          refine pl_take (.bool false) rfl (by kernel_rfl) (by kernel_rfl) (by kernel_rfl) (by kernel_rfl) ?_
          refine pl_take (.bool false) rfl (by kernel_rfl) (by kernel_rfl) (by kernel_rfl) (by kernel_rfl) ?_
          refine pl_skip rfl (by kernel_rfl) (by kernel_rfl) (by kernel_rfl) ?_
          refine pl_skip rfl (by kernel_rfl) (by kernel_rfl) (by kernel_rfl) ?_
          refine pl_skip rfl (by kernel_rfl) (by kernel_rfl) (by kernel_rfl) ?_
          refine pl_take (.bool false) rfl (by kernel_rfl) (by kernel_rfl) (by kernel_rfl) (by kernel_rfl) ?_
          refine pl_take (.bool false) rfl (by kernel_rfl) (by kernel_rfl) (by kernel_rfl) (by kernel_rfl) ?_
          refine pl_skip rfl (by kernel_rfl) (by kernel_rfl) (by kernel_rfl) ?_
          refine pl_skip rfl (by kernel_rfl) (by kernel_rfl) (by kernel_rfl) ?_
          refine pl_skip rfl (by kernel_rfl) (by kernel_rfl) (by kernel_rfl) ?_
          refine pl_take (.bool false) rfl (by kernel_rfl) (by kernel_rfl) (by kernel_rfl) (by kernel_rfl) ?_
          refine pl_take (.bool false) rfl (by kernel_rfl) (by kernel_rfl) (by kernel_rfl) (by kernel_rfl) ?_
          refine pl_nil ?_
          refine qw_then ?_
          refine cw_clean [2] (ws' := [(2, .bool false)]) (by kernel_rfl) (fun L => ?_)
          refine cw_ret ?_
          refine qw_ret [.bool false] rfl ⟨(by kernel_rfl), trivial⟩ ?_
          exact ⟨congrArg (fun b => Ending.returned (Value.bool b)) (show Orb.ok o = false by simp [Orb.ok, hb6, hb61, hb65]).symm, hE⟩
      ·
        refine pl_step rfl (by kernel_rfl) (by kernel_rfl) (by kernel_rfl) (sn_call (f := 87) (args := #[.int .i64 (o.lo : Int), .int .i64 0, .int .i64 23999]) (by kernel_rfl) ((orbit_in_r (r := false) o.lo 0 23999 _ (hb61)).mono ?_))
        rintro e w72 ⟨rfl, hb⟩
        replace hE := hE.trans hb
        replace hX5 := hX5.trans hb
        have hs73 := hb.size
        clear hb
        refine ⟨_, rfl, ?_⟩
        refine pl_take (.bool false) rfl (by kernel_rfl) (by kernel_rfl) (by kernel_rfl) (by kernel_rfl) ?_
        refine pl_skip rfl (by kernel_rfl) (by kernel_rfl) (by kernel_rfl) ?_
        refine pl_skip rfl (by kernel_rfl) (by kernel_rfl) (by kernel_rfl) ?_
        refine pl_skip rfl (by kernel_rfl) (by kernel_rfl) (by kernel_rfl) ?_
        refine pl_take (.bool false) rfl (by kernel_rfl) (by kernel_rfl) (by kernel_rfl) (by kernel_rfl) ?_
        refine pl_take (.bool false) rfl (by kernel_rfl) (by kernel_rfl) (by kernel_rfl) (by kernel_rfl) ?_
        refine pl_skip rfl (by kernel_rfl) (by kernel_rfl) (by kernel_rfl) ?_
        refine pl_skip rfl (by kernel_rfl) (by kernel_rfl) (by kernel_rfl) ?_
        refine pl_skip rfl (by kernel_rfl) (by kernel_rfl) (by kernel_rfl) ?_
        refine pl_skip rfl (by kernel_rfl) (by kernel_rfl) (by kernel_rfl) ?_
        refine pl_skip rfl (by kernel_rfl) (by kernel_rfl) (by kernel_rfl) ?_
        refine pl_take (.bool false) rfl (by kernel_rfl) (by kernel_rfl) (by kernel_rfl) (by kernel_rfl) ?_
        refine pl_take (.bool false) rfl (by kernel_rfl) (by kernel_rfl) (by kernel_rfl) (by kernel_rfl) ?_
        refine pl_nil ?_
        refine qw_then ?_
        refine cw_clean [1, 3, 4] (ws' := [(1, .pointer (some ⟨O1, 0, none⟩)), (3, .bool false), (4, .bool false)]) (by kernel_rfl) (fun L => ?_)
        refine cw_seq ?_
        refine cw_plain ?_
        refine pl_take (.bool false) rfl (by kernel_rfl) (by kernel_rfl) (by kernel_rfl) (by kernel_rfl) ?_
        refine pl_take (.bool false) rfl (by kernel_rfl) (by kernel_rfl) (by kernel_rfl) (by kernel_rfl) ?_
        refine pl_skip rfl (by kernel_rfl) (by kernel_rfl) (by kernel_rfl) ?_
        refine pl_take (.bool false) rfl (by kernel_rfl) (by kernel_rfl) (by kernel_rfl) (by kernel_rfl) ?_
        refine pl_take (.bool false) rfl (by kernel_rfl) (by kernel_rfl) (by kernel_rfl) (by kernel_rfl) ?_
        refine pl_skip rfl (by kernel_rfl) (by kernel_rfl) (by kernel_rfl) ?_
        refine pl_skip rfl (by kernel_rfl) (by kernel_rfl) (by kernel_rfl) ?_
        refine pl_skip rfl (by kernel_rfl) (by kernel_rfl) (by kernel_rfl) ?_
        refine pl_take (.bool false) rfl (by kernel_rfl) (by kernel_rfl) (by kernel_rfl) (by kernel_rfl) ?_
        refine pl_take (.bool false) rfl (by kernel_rfl) (by kernel_rfl) (by kernel_rfl) (by kernel_rfl) ?_
        refine pl_skip rfl (by kernel_rfl) (by kernel_rfl) (by kernel_rfl) ?_
        refine pl_skip rfl (by kernel_rfl) (by kernel_rfl) (by kernel_rfl) ?_
        refine pl_skip rfl (by kernel_rfl) (by kernel_rfl) (by kernel_rfl) ?_
        refine pl_take (.bool false) rfl (by kernel_rfl) (by kernel_rfl) (by kernel_rfl) (by kernel_rfl) ?_
        refine pl_take (.bool false) rfl (by kernel_rfl) (by kernel_rfl) (by kernel_rfl) (by kernel_rfl) ?_
        refine pl_skip rfl (by kernel_rfl) (by kernel_rfl) (by kernel_rfl) ?_
        refine pl_skip rfl (by kernel_rfl) (by kernel_rfl) (by kernel_rfl) ?_
        refine pl_skip rfl (by kernel_rfl) (by kernel_rfl) (by kernel_rfl) ?_
        refine pl_take (.bool false) rfl (by kernel_rfl) (by kernel_rfl) (by kernel_rfl) (by kernel_rfl) ?_
        refine pl_take (.bool false) rfl (by kernel_rfl) (by kernel_rfl) (by kernel_rfl) (by kernel_rfl) ?_
        refine pl_nil ?_
        refine qw_then ?_
        refine cw_clean [2] (ws' := [(2, .bool false)]) (by kernel_rfl) (fun L => ?_)
        refine cw_ret ?_
        refine qw_ret [.bool false] rfl ⟨(by kernel_rfl), trivial⟩ ?_
        exact ⟨congrArg (fun b => Ending.returned (Value.bool b)) (show Orb.ok o = false by simp [Orb.ok, hb6, hb61]).symm, hE⟩
  ·
    refine pl_step rfl (by kernel_rfl) (by kernel_rfl) (by kernel_rfl) (sn_call (f := 87) (args := #[.int .i64 (o.p : Int), .int .i64 20, .int .i64 2000]) (by kernel_rfl) ((orbit_in_r (r := false) o.p 20 2000 _ (hb6)).mono ?_))
    rintro e w74 ⟨rfl, hb⟩
    replace hE := hE.trans hb
    replace hX5 := hX5.trans hb
    have hs75 := hb.size
    clear hb
    refine ⟨_, rfl, ?_⟩
    refine pl_take (.bool false) rfl (by kernel_rfl) (by kernel_rfl) (by kernel_rfl) (by kernel_rfl) ?_
    refine pl_skip rfl (by kernel_rfl) (by kernel_rfl) (by kernel_rfl) ?_
    refine pl_skip rfl (by kernel_rfl) (by kernel_rfl) (by kernel_rfl) ?_
    refine pl_skip rfl (by kernel_rfl) (by kernel_rfl) (by kernel_rfl) ?_
    refine pl_skip rfl (by kernel_rfl) (by kernel_rfl) (by kernel_rfl) ?_
    refine pl_take (.bool false) rfl (by kernel_rfl) (by kernel_rfl) (by kernel_rfl) (by kernel_rfl) ?_
    refine pl_take (.bool false) rfl (by kernel_rfl) (by kernel_rfl) (by kernel_rfl) (by kernel_rfl) ?_
    refine pl_skip rfl (by kernel_rfl) (by kernel_rfl) (by kernel_rfl) ?_
    refine pl_skip rfl (by kernel_rfl) (by kernel_rfl) (by kernel_rfl) ?_
    refine pl_skip rfl (by kernel_rfl) (by kernel_rfl) (by kernel_rfl) ?_
    refine pl_skip rfl (by kernel_rfl) (by kernel_rfl) (by kernel_rfl) ?_
    refine pl_skip rfl (by kernel_rfl) (by kernel_rfl) (by kernel_rfl) ?_
    refine pl_skip rfl (by kernel_rfl) (by kernel_rfl) (by kernel_rfl) ?_
    refine pl_take (.bool false) rfl (by kernel_rfl) (by kernel_rfl) (by kernel_rfl) (by kernel_rfl) ?_
    refine pl_take (.bool false) rfl (by kernel_rfl) (by kernel_rfl) (by kernel_rfl) (by kernel_rfl) ?_
    refine pl_nil ?_
    refine qw_then ?_
    refine cw_clean [1, 3] (ws' := [(1, .pointer (some ⟨O1, 0, none⟩)), (3, .bool false)]) (by kernel_rfl) (fun L => ?_)
    refine cw_seq ?_
    refine cw_plain ?_
    refine pl_take (.pointer (some ⟨O1, 2, none⟩)) rfl (by kernel_rfl) (by kernel_rfl) (by kernel_rfl) (by kernel_rfl) ?_
    refine pl_take (.int .i64 (o.lo : Int)) rfl (by kernel_rfl) (by kernel_rfl) (by kernel_rfl) (ex_load rfl (by kernel_rfl) (ld3 ((BoxAt.ext hX5 bO1_2).1))) ?_
    rcases Bool.eq_false_or_eq_true (Globe.inB o.lo 0 23999) with hb76 | hb76
    ·
      have hq77 := Globe.inB_t.1 hb76
      refine pl_step rfl (by kernel_rfl) (by kernel_rfl) (by kernel_rfl) (sn_call (f := 87) (args := #[.int .i64 (o.lo : Int), .int .i64 0, .int .i64 23999]) (by kernel_rfl) ((orbit_in_r (r := true) o.lo 0 23999 _ (hb76)).mono ?_))
      rintro e w78 ⟨rfl, hb⟩
      replace hE := hE.trans hb
      replace hX5 := hX5.trans hb
      have hs79 := hb.size
      clear hb
      refine ⟨_, rfl, ?_⟩
      refine pl_take (.bool true) rfl (by kernel_rfl) (by kernel_rfl) (by kernel_rfl) (by kernel_rfl) ?_
      refine pl_take (.pointer (some ⟨O1, 3, none⟩)) rfl (by kernel_rfl) (by kernel_rfl) (by kernel_rfl) (by kernel_rfl) ?_
      refine pl_take (.int .i64 (o.hi : Int)) rfl (by kernel_rfl) (by kernel_rfl) (by kernel_rfl) (ex_load rfl (by kernel_rfl) (ld3 ((BoxAt.ext hX5 bO1_3).1))) ?_
      rcases Bool.eq_false_or_eq_true (Globe.inB o.hi 0 23999) with hb80 | hb80
      ·
        have hq81 := Globe.inB_t.1 hb80
        refine pl_step rfl (by kernel_rfl) (by kernel_rfl) (by kernel_rfl) (sn_call (f := 87) (args := #[.int .i64 (o.hi : Int), .int .i64 0, .int .i64 23999]) (by kernel_rfl) ((orbit_in_r (r := true) o.hi 0 23999 _ (hb80)).mono ?_))
        rintro e w82 ⟨rfl, hb⟩
        replace hE := hE.trans hb
        replace hX5 := hX5.trans hb
        have hs83 := hb.size
        clear hb
        refine ⟨_, rfl, ?_⟩
        refine pl_take (.bool true) rfl (by kernel_rfl) (by kernel_rfl) (by kernel_rfl) (by kernel_rfl) ?_
        refine pl_take (.bool true) rfl (by kernel_rfl) (by kernel_rfl) (by kernel_rfl) (by kernel_rfl) ?_
        refine pl_take (.pointer (some ⟨O1, 2, none⟩)) rfl (by kernel_rfl) (by kernel_rfl) (by kernel_rfl) (by kernel_rfl) ?_
        refine pl_take (.int .i64 (o.lo : Int)) rfl (by kernel_rfl) (by kernel_rfl) (by kernel_rfl) (ex_load rfl (by kernel_rfl) (ld3 ((BoxAt.ext hX5 bO1_2).1))) ?_
        refine pl_take (.pointer (some ⟨O1, 3, none⟩)) rfl (by kernel_rfl) (by kernel_rfl) (by kernel_rfl) (by kernel_rfl) ?_
        refine pl_take (.int .i64 (o.hi : Int)) rfl (by kernel_rfl) (by kernel_rfl) (by kernel_rfl) (ex_load rfl (by kernel_rfl) (ld3 ((BoxAt.ext hX5 bO1_3).1))) ?_
        by_cases hc84 : (o.lo : Int) < (o.hi : Int)
        ·
          refine pl_take (.bool true) rfl (by kernel_rfl) (by kernel_rfl) (by kernel_rfl) (ev_dec (show _ = Result.ok (Next.value (Value.bool (decide ((o.lo : Int) < (o.hi : Int))))) _ from by kernel_rfl) (hc84)) ?_
          refine pl_take (.bool true) rfl (by kernel_rfl) (by kernel_rfl) (by kernel_rfl) (by kernel_rfl) ?_
          refine pl_take (.bool true) rfl (by kernel_rfl) (by kernel_rfl) (by kernel_rfl) (by kernel_rfl) ?_
          refine pl_nil ?_
          refine qw_then ?_
          refine cw_clean [1, 3, 4] (ws' := [(1, .pointer (some ⟨O1, 0, none⟩)), (3, .bool false), (4, .bool true)]) (by kernel_rfl) (fun L => ?_)
          refine cw_seq ?_
          refine cw_plain ?_
          refine pl_take (.bool false) rfl (by kernel_rfl) (by kernel_rfl) (by kernel_rfl) (by kernel_rfl) ?_
          refine pl_take (.bool false) rfl (by kernel_rfl) (by kernel_rfl) (by kernel_rfl) (by kernel_rfl) ?_
          refine pl_skip rfl (by kernel_rfl) (by kernel_rfl) (by kernel_rfl) ?_
          refine pl_take (.bool false) rfl (by kernel_rfl) (by kernel_rfl) (by kernel_rfl) (by kernel_rfl) ?_
          refine pl_take (.bool false) rfl (by kernel_rfl) (by kernel_rfl) (by kernel_rfl) (by kernel_rfl) ?_
          refine pl_skip rfl (by kernel_rfl) (by kernel_rfl) (by kernel_rfl) ?_
          refine pl_skip rfl (by kernel_rfl) (by kernel_rfl) (by kernel_rfl) ?_
          refine pl_skip rfl (by kernel_rfl) (by kernel_rfl) (by kernel_rfl) ?_
          refine pl_take (.bool false) rfl (by kernel_rfl) (by kernel_rfl) (by kernel_rfl) (by kernel_rfl) ?_
          refine pl_take (.bool false) rfl (by kernel_rfl) (by kernel_rfl) (by kernel_rfl) (by kernel_rfl) ?_
          refine pl_skip rfl (by kernel_rfl) (by kernel_rfl) (by kernel_rfl) ?_
          refine pl_skip rfl (by kernel_rfl) (by kernel_rfl) (by kernel_rfl) ?_
          refine pl_skip rfl (by kernel_rfl) (by kernel_rfl) (by kernel_rfl) ?_
          refine pl_take (.bool false) rfl (by kernel_rfl) (by kernel_rfl) (by kernel_rfl) (by kernel_rfl) ?_
          refine pl_take (.bool false) rfl (by kernel_rfl) (by kernel_rfl) (by kernel_rfl) (by kernel_rfl) ?_
          refine pl_skip rfl (by kernel_rfl) (by kernel_rfl) (by kernel_rfl) ?_
          refine pl_skip rfl (by kernel_rfl) (by kernel_rfl) (by kernel_rfl) ?_
          refine pl_skip rfl (by kernel_rfl) (by kernel_rfl) (by kernel_rfl) ?_
          refine pl_take (.bool false) rfl (by kernel_rfl) (by kernel_rfl) (by kernel_rfl) (by kernel_rfl) ?_
          refine pl_take (.bool false) rfl (by kernel_rfl) (by kernel_rfl) (by kernel_rfl) (by kernel_rfl) ?_
          refine pl_nil ?_
          refine qw_then ?_
          refine cw_clean [2] (ws' := [(2, .bool false)]) (by kernel_rfl) (fun L => ?_)
          refine cw_ret ?_
          refine qw_ret [.bool false] rfl ⟨(by kernel_rfl), trivial⟩ ?_
          exact ⟨congrArg (fun b => Ending.returned (Value.bool b)) (show Orb.ok o = false by simp [Orb.ok, hb6, hb76, hb80, hc84]).symm, hE⟩
        ·
          refine pl_take (.bool false) rfl (by kernel_rfl) (by kernel_rfl) (by kernel_rfl) (ev_ndec (show _ = Result.ok (Next.value (Value.bool (decide ((o.lo : Int) < (o.hi : Int))))) _ from by kernel_rfl) (hc84)) ?_
          refine pl_take (.bool false) rfl (by kernel_rfl) (by kernel_rfl) (by kernel_rfl) (by kernel_rfl) ?_
          refine pl_take (.bool false) rfl (by kernel_rfl) (by kernel_rfl) (by kernel_rfl) (by kernel_rfl) ?_
          refine pl_nil ?_
          refine qw_then ?_
          refine cw_clean [1, 3, 4] (ws' := [(1, .pointer (some ⟨O1, 0, none⟩)), (3, .bool false), (4, .bool false)]) (by kernel_rfl) (fun L => ?_)
          refine cw_seq ?_
          refine cw_plain ?_
          refine pl_take (.bool false) rfl (by kernel_rfl) (by kernel_rfl) (by kernel_rfl) (by kernel_rfl) ?_
          refine pl_take (.bool false) rfl (by kernel_rfl) (by kernel_rfl) (by kernel_rfl) (by kernel_rfl) ?_
          refine pl_skip rfl (by kernel_rfl) (by kernel_rfl) (by kernel_rfl) ?_
          refine pl_take (.bool false) rfl (by kernel_rfl) (by kernel_rfl) (by kernel_rfl) (by kernel_rfl) ?_
          refine pl_take (.bool false) rfl (by kernel_rfl) (by kernel_rfl) (by kernel_rfl) (by kernel_rfl) ?_
          refine pl_skip rfl (by kernel_rfl) (by kernel_rfl) (by kernel_rfl) ?_
          refine pl_skip rfl (by kernel_rfl) (by kernel_rfl) (by kernel_rfl) ?_
          refine pl_skip rfl (by kernel_rfl) (by kernel_rfl) (by kernel_rfl) ?_
          refine pl_take (.bool false) rfl (by kernel_rfl) (by kernel_rfl) (by kernel_rfl) (by kernel_rfl) ?_
          refine pl_take (.bool false) rfl (by kernel_rfl) (by kernel_rfl) (by kernel_rfl) (by kernel_rfl) ?_
          refine pl_skip rfl (by kernel_rfl) (by kernel_rfl) (by kernel_rfl) ?_
          refine pl_skip rfl (by kernel_rfl) (by kernel_rfl) (by kernel_rfl) ?_
          refine pl_skip rfl (by kernel_rfl) (by kernel_rfl) (by kernel_rfl) ?_
          refine pl_take (.bool false) rfl (by kernel_rfl) (by kernel_rfl) (by kernel_rfl) (by kernel_rfl) ?_
          refine pl_take (.bool false) rfl (by kernel_rfl) (by kernel_rfl) (by kernel_rfl) (by kernel_rfl) ?_
          refine pl_skip rfl (by kernel_rfl) (by kernel_rfl) (by kernel_rfl) ?_
          refine pl_skip rfl (by kernel_rfl) (by kernel_rfl) (by kernel_rfl) ?_
          refine pl_skip rfl (by kernel_rfl) (by kernel_rfl) (by kernel_rfl) ?_
          refine pl_take (.bool false) rfl (by kernel_rfl) (by kernel_rfl) (by kernel_rfl) (by kernel_rfl) ?_
          refine pl_take (.bool false) rfl (by kernel_rfl) (by kernel_rfl) (by kernel_rfl) (by kernel_rfl) ?_
          refine pl_nil ?_
          refine qw_then ?_
          refine cw_clean [2] (ws' := [(2, .bool false)]) (by kernel_rfl) (fun L => ?_)
          refine cw_ret ?_
          refine qw_ret [.bool false] rfl ⟨(by kernel_rfl), trivial⟩ ?_
          exact ⟨congrArg (fun b => Ending.returned (Value.bool b)) (show Orb.ok o = false by simp [Orb.ok, hb6, hb76, hb80, hc84]).symm, hE⟩
      ·
        refine pl_step rfl (by kernel_rfl) (by kernel_rfl) (by kernel_rfl) (sn_call (f := 87) (args := #[.int .i64 (o.hi : Int), .int .i64 0, .int .i64 23999]) (by kernel_rfl) ((orbit_in_r (r := false) o.hi 0 23999 _ (hb80)).mono ?_))
        rintro e w85 ⟨rfl, hb⟩
        replace hE := hE.trans hb
        replace hX5 := hX5.trans hb
        have hs86 := hb.size
        clear hb
        refine ⟨_, rfl, ?_⟩
        refine pl_take (.bool false) rfl (by kernel_rfl) (by kernel_rfl) (by kernel_rfl) (by kernel_rfl) ?_
        refine pl_take (.bool false) rfl (by kernel_rfl) (by kernel_rfl) (by kernel_rfl) (by kernel_rfl) ?_
        refine pl_skip rfl (by kernel_rfl) (by kernel_rfl) (by kernel_rfl) ?_
        refine pl_skip rfl (by kernel_rfl) (by kernel_rfl) (by kernel_rfl) ?_
        refine pl_skip rfl (by kernel_rfl) (by kernel_rfl) (by kernel_rfl) ?_
        refine pl_skip rfl (by kernel_rfl) (by kernel_rfl) (by kernel_rfl) ?_
        refine pl_skip rfl (by kernel_rfl) (by kernel_rfl) (by kernel_rfl) ?_
        refine pl_take (.bool false) rfl (by kernel_rfl) (by kernel_rfl) (by kernel_rfl) (by kernel_rfl) ?_
        refine pl_take (.bool false) rfl (by kernel_rfl) (by kernel_rfl) (by kernel_rfl) (by kernel_rfl) ?_
        refine pl_nil ?_
        refine qw_then ?_
        refine cw_clean [1, 3, 4] (ws' := [(1, .pointer (some ⟨O1, 0, none⟩)), (3, .bool false), (4, .bool false)]) (by kernel_rfl) (fun L => ?_)
        refine cw_seq ?_
        refine cw_plain ?_
        refine pl_take (.bool false) rfl (by kernel_rfl) (by kernel_rfl) (by kernel_rfl) (by kernel_rfl) ?_
        refine pl_take (.bool false) rfl (by kernel_rfl) (by kernel_rfl) (by kernel_rfl) (by kernel_rfl) ?_
        refine pl_skip rfl (by kernel_rfl) (by kernel_rfl) (by kernel_rfl) ?_
        refine pl_take (.bool false) rfl (by kernel_rfl) (by kernel_rfl) (by kernel_rfl) (by kernel_rfl) ?_
        refine pl_take (.bool false) rfl (by kernel_rfl) (by kernel_rfl) (by kernel_rfl) (by kernel_rfl) ?_
        refine pl_skip rfl (by kernel_rfl) (by kernel_rfl) (by kernel_rfl) ?_
        refine pl_skip rfl (by kernel_rfl) (by kernel_rfl) (by kernel_rfl) ?_
        refine pl_skip rfl (by kernel_rfl) (by kernel_rfl) (by kernel_rfl) ?_
        refine pl_take (.bool false) rfl (by kernel_rfl) (by kernel_rfl) (by kernel_rfl) (by kernel_rfl) ?_
        refine pl_take (.bool false) rfl (by kernel_rfl) (by kernel_rfl) (by kernel_rfl) (by kernel_rfl) ?_
        refine pl_skip rfl (by kernel_rfl) (by kernel_rfl) (by kernel_rfl) ?_
        refine pl_skip rfl (by kernel_rfl) (by kernel_rfl) (by kernel_rfl) ?_
        refine pl_skip rfl (by kernel_rfl) (by kernel_rfl) (by kernel_rfl) ?_
        refine pl_take (.bool false) rfl (by kernel_rfl) (by kernel_rfl) (by kernel_rfl) (by kernel_rfl) ?_
        refine pl_take (.bool false) rfl (by kernel_rfl) (by kernel_rfl) (by kernel_rfl) (by kernel_rfl) ?_
        refine pl_skip rfl (by kernel_rfl) (by kernel_rfl) (by kernel_rfl) ?_
        refine pl_skip rfl (by kernel_rfl) (by kernel_rfl) (by kernel_rfl) ?_
        refine pl_skip rfl (by kernel_rfl) (by kernel_rfl) (by kernel_rfl) ?_
        refine pl_take (.bool false) rfl (by kernel_rfl) (by kernel_rfl) (by kernel_rfl) (by kernel_rfl) ?_
        refine pl_take (.bool false) rfl (by kernel_rfl) (by kernel_rfl) (by kernel_rfl) (by kernel_rfl) ?_
        refine pl_nil ?_
        refine qw_then ?_
        refine cw_clean [2] (ws' := [(2, .bool false)]) (by kernel_rfl) (fun L => ?_)
        refine cw_ret ?_
        refine qw_ret [.bool false] rfl ⟨(by kernel_rfl), trivial⟩ ?_
        exact ⟨congrArg (fun b => Ending.returned (Value.bool b)) (show Orb.ok o = false by simp [Orb.ok, hb6, hb76, hb80]).symm, hE⟩
    ·
      refine pl_step rfl (by kernel_rfl) (by kernel_rfl) (by kernel_rfl) (sn_call (f := 87) (args := #[.int .i64 (o.lo : Int), .int .i64 0, .int .i64 23999]) (by kernel_rfl) ((orbit_in_r (r := false) o.lo 0 23999 _ (hb76)).mono ?_))
      rintro e w87 ⟨rfl, hb⟩
      replace hE := hE.trans hb
      replace hX5 := hX5.trans hb
      have hs88 := hb.size
      clear hb
      refine ⟨_, rfl, ?_⟩
      refine pl_take (.bool false) rfl (by kernel_rfl) (by kernel_rfl) (by kernel_rfl) (by kernel_rfl) ?_
      refine pl_skip rfl (by kernel_rfl) (by kernel_rfl) (by kernel_rfl) ?_
      refine pl_skip rfl (by kernel_rfl) (by kernel_rfl) (by kernel_rfl) ?_
      refine pl_skip rfl (by kernel_rfl) (by kernel_rfl) (by kernel_rfl) ?_
      refine pl_take (.bool false) rfl (by kernel_rfl) (by kernel_rfl) (by kernel_rfl) (by kernel_rfl) ?_
      refine pl_take (.bool false) rfl (by kernel_rfl) (by kernel_rfl) (by kernel_rfl) (by kernel_rfl) ?_
      refine pl_skip rfl (by kernel_rfl) (by kernel_rfl) (by kernel_rfl) ?_
      refine pl_skip rfl (by kernel_rfl) (by kernel_rfl) (by kernel_rfl) ?_
      refine pl_skip rfl (by kernel_rfl) (by kernel_rfl) (by kernel_rfl) ?_
      refine pl_skip rfl (by kernel_rfl) (by kernel_rfl) (by kernel_rfl) ?_
      refine pl_skip rfl (by kernel_rfl) (by kernel_rfl) (by kernel_rfl) ?_
      refine pl_take (.bool false) rfl (by kernel_rfl) (by kernel_rfl) (by kernel_rfl) (by kernel_rfl) ?_
      refine pl_take (.bool false) rfl (by kernel_rfl) (by kernel_rfl) (by kernel_rfl) (by kernel_rfl) ?_
      refine pl_nil ?_
      refine qw_then ?_
      refine cw_clean [1, 3, 4] (ws' := [(1, .pointer (some ⟨O1, 0, none⟩)), (3, .bool false), (4, .bool false)]) (by kernel_rfl) (fun L => ?_)
      refine cw_seq ?_
      refine cw_plain ?_
      refine pl_take (.bool false) rfl (by kernel_rfl) (by kernel_rfl) (by kernel_rfl) (by kernel_rfl) ?_
      refine pl_take (.bool false) rfl (by kernel_rfl) (by kernel_rfl) (by kernel_rfl) (by kernel_rfl) ?_
      refine pl_skip rfl (by kernel_rfl) (by kernel_rfl) (by kernel_rfl) ?_
      refine pl_take (.bool false) rfl (by kernel_rfl) (by kernel_rfl) (by kernel_rfl) (by kernel_rfl) ?_
      refine pl_take (.bool false) rfl (by kernel_rfl) (by kernel_rfl) (by kernel_rfl) (by kernel_rfl) ?_
      refine pl_skip rfl (by kernel_rfl) (by kernel_rfl) (by kernel_rfl) ?_
      refine pl_skip rfl (by kernel_rfl) (by kernel_rfl) (by kernel_rfl) ?_
      refine pl_skip rfl (by kernel_rfl) (by kernel_rfl) (by kernel_rfl) ?_
      refine pl_take (.bool false) rfl (by kernel_rfl) (by kernel_rfl) (by kernel_rfl) (by kernel_rfl) ?_
      refine pl_take (.bool false) rfl (by kernel_rfl) (by kernel_rfl) (by kernel_rfl) (by kernel_rfl) ?_
      refine pl_skip rfl (by kernel_rfl) (by kernel_rfl) (by kernel_rfl) ?_
      refine pl_skip rfl (by kernel_rfl) (by kernel_rfl) (by kernel_rfl) ?_
      refine pl_skip rfl (by kernel_rfl) (by kernel_rfl) (by kernel_rfl) ?_
      refine pl_take (.bool false) rfl (by kernel_rfl) (by kernel_rfl) (by kernel_rfl) (by kernel_rfl) ?_
      refine pl_take (.bool false) rfl (by kernel_rfl) (by kernel_rfl) (by kernel_rfl) (by kernel_rfl) ?_
      refine pl_skip rfl (by kernel_rfl) (by kernel_rfl) (by kernel_rfl) ?_
      refine pl_skip rfl (by kernel_rfl) (by kernel_rfl) (by kernel_rfl) ?_
      refine pl_skip rfl (by kernel_rfl) (by kernel_rfl) (by kernel_rfl) ?_
      refine pl_take (.bool false) rfl (by kernel_rfl) (by kernel_rfl) (by kernel_rfl) (by kernel_rfl) ?_
      refine pl_take (.bool false) rfl (by kernel_rfl) (by kernel_rfl) (by kernel_rfl) (by kernel_rfl) ?_
      refine pl_nil ?_
      refine qw_then ?_
      refine cw_clean [2] (ws' := [(2, .bool false)]) (by kernel_rfl) (fun L => ?_)
      refine cw_ret ?_
      refine qw_ret [.bool false] rfl ⟨(by kernel_rfl), trivial⟩ ?_
      exact ⟨congrArg (fun b => Ending.returned (Value.bool b)) (show Orb.ok o = false by simp [Orb.ok, hb6, hb76]).symm, hE⟩
theorem oValid_r {o : Orb} {r : Bool} (w : World) (hr : Orb.ok o = r) : Calls Try.prog 56 #[.agg #[.int .i64 o.p, .int .i64 o.f, .int .i64 o.lo, .int .i64 o.hi, .int .i64 o.nd, .int .i64 o.tn, .int .i64 o.sl]] w fun e w' => e = .returned (.bool r) ∧ Ext w w' := hr ▸ oValid_c o w

end Go.Proofs.Ytdjjkhefdalokaa

/- Contracts of package orbit: where a satellite is. -/
namespace Go.Proofs.Ytdjjkhefdalokaa
open Go.RowKit

set_option maxRecDepth 1000000 in
set_option maxHeartbeats 4000000 in
theorem column_c (o : Orb) (t : Int) (w : World) (hok : Orb.ok o = true) (h0 : -10 ≤ t) (h1 : t ≤ 1000010) : Calls Try.prog 92 #[.agg #[.int .i64 o.p, .int .i64 o.f, .int .i64 o.lo, .int .i64 o.hi, .int .i64 o.nd, .int .i64 o.tn, .int .i64 o.sl, .int .i64 t]] w fun e w' => e = .returned (.int .i64 (Orb.col o t)) ∧ Ext w w' := by
  have hq0 := Orb.ok_t.1 hok
  have hm := Orb.turn_bd hok t h0 h1
  refine calls_cw 14 [(0, .agg #[.int .i64 (o.p : Int), .int .i64 (o.f : Int), .int .i64 (o.lo : Int), .int .i64 (o.hi : Int), .int .i64 (o.nd : Int), .int .i64 (o.tn : Int), .int .i64 (o.sl : Int), .int .i64 (t : Int)])] Try.func92 rfl Try.ntmps92 (by kernel_rfl) (by kernel_rfl) (fun L => ?_)
  have hE : Ext w w := Ext.refl w
  refine cw_seq ?_
  refine cw_plain ?_
  refine pl_step rfl (by kernel_rfl) (by kernel_rfl) (by kernel_rfl) (sn_new (us := #[.int .i64 (o.p : Int), .int .i64 (o.f : Int), .int .i64 (o.lo : Int), .int .i64 (o.hi : Int), .int .i64 (o.nd : Int), .int .i64 (o.tn : Int), .int .i64 (o.sl : Int), .int .i64 (t : Int)]) (t := 96) (by kernel_rfl) ?_)
  intro O1 X2 hO hOs hb hbx
  have hzO1 := hO; have hyO1 := hOs; clear hO hOs
  have bO1_0 : BoxAt X2 O1 0 (.int .i64 (o.p : Int)) := hbx 0 _ rfl
  have bO1_1 : BoxAt X2 O1 1 (.int .i64 (o.f : Int)) := hbx 1 _ rfl
  have bO1_2 : BoxAt X2 O1 2 (.int .i64 (o.lo : Int)) := hbx 2 _ rfl
  have bO1_3 : BoxAt X2 O1 3 (.int .i64 (o.hi : Int)) := hbx 3 _ rfl
  have bO1_4 : BoxAt X2 O1 4 (.int .i64 (o.nd : Int)) := hbx 4 _ rfl
  have bO1_5 : BoxAt X2 O1 5 (.int .i64 (o.tn : Int)) := hbx 5 _ rfl
  have bO1_6 : BoxAt X2 O1 6 (.int .i64 (o.sl : Int)) := hbx 6 _ rfl
  have bO1_7 : BoxAt X2 O1 7 (.int .i64 (t : Int)) := hbx 7 _ rfl
  clear hbx
  replace hE := hE.trans hb
  have hs3 := hb.size
  clear hb
  have lt4 := bO1_0.lt
  refine pl_take (.int .i64 0) rfl (by kernel_rfl) (by kernel_rfl) (by kernel_rfl) (by kernel_rfl) ?_
  refine pl_nil ?_
  refine qw_then ?_
  refine cw_seq ?_
  have hX5 : Ext X2 X2 := Ext.refl _
  refine cw_plain ?_
  refine pl_take (.pointer (some ⟨O1, 0, none⟩)) rfl (by kernel_rfl) (by kernel_rfl) (by kernel_rfl) (by kernel_rfl) ?_
  refine pl_take (.pointer (some ⟨O1, 4, none⟩)) rfl (by kernel_rfl) (by kernel_rfl) (by kernel_rfl) (by kernel_rfl) ?_
  refine pl_take (.int .i64 (o.nd : Int)) rfl (by kernel_rfl) (by kernel_rfl) (by kernel_rfl) (ex_load rfl (by kernel_rfl) (ld3 (bO1_4.1))) ?_
  refine pl_take (.pointer (some ⟨O1, 0, none⟩)) rfl (by kernel_rfl) (by kernel_rfl) (by kernel_rfl) (by kernel_rfl) ?_
  refine pl_take (.pointer (some ⟨O1, 5, none⟩)) rfl (by kernel_rfl) (by kernel_rfl) (by kernel_rfl) (by kernel_rfl) ?_
  refine pl_take (.int .i64 (o.tn : Int)) rfl (by kernel_rfl) (by kernel_rfl) (by kernel_rfl) (ex_load rfl (by kernel_rfl) (ld3 (bO1_5.1))) ?_
  refine pl_take (.pointer (some ⟨O1, 7, none⟩)) rfl (by kernel_rfl) (by kernel_rfl) (by kernel_rfl) (by kernel_rfl) ?_
  refine pl_take (.int .i64 (t : Int)) rfl (by kernel_rfl) (by kernel_rfl) (by kernel_rfl) (ex_load rfl (by kernel_rfl) (ld3 (bO1_7.1))) ?_
  refine pl_take (.int .i64 (o.tn * t : Int)) rfl (by kernel_rfl) (by kernel_rfl) (by kernel_rfl) (ev_wrap (by kernel_rfl) (by omega) (by omega)) ?_
  refine pl_take (.int .i64 (o.nd + (o.tn * t) : Int)) rfl (by kernel_rfl) (by kernel_rfl) (by kernel_rfl) (ev_wrap (by kernel_rfl) (by omega) (by omega)) ?_
  refine pl_step rfl (by kernel_rfl) (by kernel_rfl) (by kernel_rfl) (sn_call (f := 104) (args := #[.int .i64 (o.nd + (o.tn * t) : Int), .int .i64 48000]) (by kernel_rfl) ((around_c (o.nd + (o.tn * t)) 48000 _ (by omega) (by omega)).mono ?_))
  rintro e w6 ⟨rfl, hb⟩
  replace hE := hE.trans hb
  replace hX5 := hX5.trans hb
  have hs7 := hb.size
  clear hb
  refine ⟨_, rfl, ?_⟩
  refine pl_take (.int .i64 ((o.nd + (o.tn * t)) % 48000 : Int)) rfl (by kernel_rfl) (by kernel_rfl) (by kernel_rfl) (by kernel_rfl) ?_
  refine pl_nil ?_
  refine qw_then ?_
  refine cw_ret ?_
  refine qw_ret [.int .i64 ((o.nd + (o.tn * t)) % 48000 : Int)] rfl ⟨(by kernel_rfl), trivial⟩ ?_
  exact ⟨rfl, hE⟩
set_option maxRecDepth 1000000 in
set_option maxHeartbeats 4000000 in
theorem row_c (o : Orb) (t : Int) (w : World) (hok : Orb.ok o = true) (h0 : -10 ≤ t) (h1 : t ≤ 1000010) : Calls Try.prog 93 #[.agg #[.int .i64 o.p, .int .i64 o.f, .int .i64 o.lo, .int .i64 o.hi, .int .i64 o.nd, .int .i64 o.tn, .int .i64 o.sl, .int .i64 t]] w fun e w' => e = .returned (.int .i64 (Orb.row o t)) ∧ Ext w w' := by
  have hq0 := Orb.ok_t.1 hok
  have hu := Orb.ph_bd hok t
  have hv := Orb.up_bd hok t
  obtain ⟨hm0, hm1⟩ := Orb.mul_bd hok t
  have hm2 := Orb.mul_le hok
  have hr := Orb.row_bd hok t
  refine calls_cw 38 [(0, .agg #[.int .i64 (o.p : Int), .int .i64 (o.f : Int), .int .i64 (o.lo : Int), .int .i64 (o.hi : Int), .int .i64 (o.nd : Int), .int .i64 (o.tn : Int), .int .i64 (o.sl : Int), .int .i64 (t : Int)])] Try.func93 rfl Try.ntmps93 (by kernel_rfl) (by kernel_rfl) (fun L => ?_)
  have hE : Ext w w := Ext.refl w
  refine cw_seq ?_
  refine cw_plain ?_
  refine pl_step rfl (by kernel_rfl) (by kernel_rfl) (by kernel_rfl) (sn_new (us := #[.int .i64 (o.p : Int), .int .i64 (o.f : Int), .int .i64 (o.lo : Int), .int .i64 (o.hi : Int), .int .i64 (o.nd : Int), .int .i64 (o.tn : Int), .int .i64 (o.sl : Int), .int .i64 (t : Int)]) (t := 96) (by kernel_rfl) ?_)
  intro O1 X2 hO hOs hb hbx
  have hzO1 := hO; have hyO1 := hOs; clear hO hOs
  have bO1_0 : BoxAt X2 O1 0 (.int .i64 (o.p : Int)) := hbx 0 _ rfl
  have bO1_1 : BoxAt X2 O1 1 (.int .i64 (o.f : Int)) := hbx 1 _ rfl
  have bO1_2 : BoxAt X2 O1 2 (.int .i64 (o.lo : Int)) := hbx 2 _ rfl
  have bO1_3 : BoxAt X2 O1 3 (.int .i64 (o.hi : Int)) := hbx 3 _ rfl
  have bO1_4 : BoxAt X2 O1 4 (.int .i64 (o.nd : Int)) := hbx 4 _ rfl
  have bO1_5 : BoxAt X2 O1 5 (.int .i64 (o.tn : Int)) := hbx 5 _ rfl
  have bO1_6 : BoxAt X2 O1 6 (.int .i64 (o.sl : Int)) := hbx 6 _ rfl
  have bO1_7 : BoxAt X2 O1 7 (.int .i64 (t : Int)) := hbx 7 _ rfl
  clear hbx
  replace hE := hE.trans hb
  have hs3 := hb.size
  clear hb
  have lt4 := bO1_0.lt
  refine pl_take (.int .i64 0) rfl (by kernel_rfl) (by kernel_rfl) (by kernel_rfl) (by kernel_rfl) ?_
  refine pl_nil ?_
  refine qw_then ?_
  refine cw_seq ?_
  have hX5 : Ext X2 X2 := Ext.refl _
  refine cw_plain ?_
  refine pl_take (.pointer (some ⟨O1, 7, none⟩)) rfl (by kernel_rfl) (by kernel_rfl) (by kernel_rfl) (by kernel_rfl) ?_
  refine pl_take (.int .i64 (t : Int)) rfl (by kernel_rfl) (by kernel_rfl) (by kernel_rfl) (ex_load rfl (by kernel_rfl) (ld3 (bO1_7.1))) ?_
  refine pl_take (.pointer (some ⟨O1, 0, none⟩)) rfl (by kernel_rfl) (by kernel_rfl) (by kernel_rfl) (by kernel_rfl) ?_
  refine pl_take (.pointer (some ⟨O1, 1, none⟩)) rfl (by kernel_rfl) (by kernel_rfl) (by kernel_rfl) (by kernel_rfl) ?_
  refine pl_take (.int .i64 (o.f : Int)) rfl (by kernel_rfl) (by kernel_rfl) (by kernel_rfl) (ex_load rfl (by kernel_rfl) (ld3 (bO1_1.1))) ?_
  refine pl_take (.int .i64 (t + o.f : Int)) rfl (by kernel_rfl) (by kernel_rfl) (by kernel_rfl) (ev_wrap (by kernel_rfl) (by omega) (by omega)) ?_
  refine pl_take (.pointer (some ⟨O1, 0, none⟩)) rfl (by kernel_rfl) (by kernel_rfl) (by kernel_rfl) (by kernel_rfl) ?_
  refine pl_take (.pointer (some ⟨O1, 0, none⟩)) rfl (by kernel_rfl) (by kernel_rfl) (by kernel_rfl) (by kernel_rfl) ?_
  refine pl_take (.int .i64 (o.p : Int)) rfl (by kernel_rfl) (by kernel_rfl) (by kernel_rfl) (ex_load rfl (by kernel_rfl) (ld3 (bO1_0.1))) ?_
  refine pl_step rfl (by kernel_rfl) (by kernel_rfl) (by kernel_rfl) (sn_call (f := 104) (args := #[.int .i64 (t + o.f : Int), .int .i64 (o.p : Int)]) (by kernel_rfl) ((around_c (t + o.f) o.p _ (by omega) (by omega)).mono ?_))
  rintro e w6 ⟨rfl, hb⟩
  replace hE := hE.trans hb
  replace hX5 := hX5.trans hb
  have hs7 := hb.size
  clear hb
  refine ⟨_, rfl, ?_⟩
  refine pl_take (.int .i64 (Orb.ph o t : Int)) rfl (by kernel_rfl) (by kernel_rfl) (by kernel_rfl) (by kernel_rfl) ?_
  refine pl_nil ?_
  refine qw_then ?_
  refine cw_seq ?_
  refine cw_draw [(some 14, [1], []), (some 15, [14], [0]), (some 16, [15], [1]), (some 17, [1], []), (some 18, [17], [3]), (some 19, [18], [4]), (some 20, [1], []), (some 21, [20], [6]), (some 22, [21], [7]), (some 23, [19, 22], [5, 8]), (some 24, [23], [9]), (some 25, [3], []), (some 26, [1], []), (some 27, [26], [12]), (some 28, [27], [13]), (some 29, [3], []), (some 30, [28, 29], [14, 15]), (some 31, [25, 30], [11, 16]), (some 32, [24, 31], [10, 17]), (some 33, [1], []), (some 34, [33], [19]), (some 35, [34], [20]), (some 36, [32, 35], [18, 21]), (some 37, [16, 36], [2, 22]), (some 2, [37], [23, 0, 1, 2, 3, 4, 5, 6, 7, 8, 9, 10, 11, 12, 13, 14, 15, 16, 17, 18, 19, 20, 21, 22, 23])] (fun w' => w'.cell? ⟨O1, 2, none⟩ = some (.int .i64 (o.lo : Int)) ∧ w'.cell? ⟨O1, 3, none⟩ = some (.int .i64 (o.hi : Int)) ∧ w'.cell? ⟨O1, 0, none⟩ = some (.int .i64 (o.p : Int))) (by kernel_rfl) (by kernel_rfl) (by kernel_rfl) (by kernel_rfl) ((calm_then calm_body)) (⟨(BoxAt.ext hX5 bO1_2).1, (BoxAt.ext hX5 bO1_3).1, (BoxAt.ext hX5 bO1_0).1⟩) (fun ops Q X8 hb hL hR hK => ?_)
  replace hE := hE.trans hb
  replace hX5 := hX5.trans hb
  have hs9 := hb.size
  clear hb
  have hS10 := And.intro ((BoxAt.ext hX5 bO1_2).1) (And.intro ((BoxAt.ext hX5 bO1_3).1) ((BoxAt.ext hX5 bO1_0).1))
  refine wd_take 0 (.pointer (some ⟨O1, 0, none⟩)) hR rfl (by kernel_rfl) rfl (by kernel_rfl) (fun w _ => by kernel_rfl) (hS10) ?_
  refine wd_take 1 (.pointer (some ⟨O1, 2, none⟩)) hR rfl (by kernel_rfl) rfl (by kernel_rfl) (fun w _ => by kernel_rfl) (hS10) ?_
  refine wd_take 2 (.int .i64 (o.lo : Int)) hR rfl (by kernel_rfl) rfl (by kernel_rfl) (fun w hS => ex_load rfl (by kernel_rfl) (ld3 (hS.1))) (hS10) ?_
  refine wd_take 3 (.pointer (some ⟨O1, 0, none⟩)) hR rfl (by kernel_rfl) rfl (by kernel_rfl) (fun w _ => by kernel_rfl) (hS10) ?_
  refine wd_take 4 (.pointer (some ⟨O1, 3, none⟩)) hR rfl (by kernel_rfl) rfl (by kernel_rfl) (fun w _ => by kernel_rfl) (hS10) ?_
  refine wd_take 5 (.int .i64 (o.hi : Int)) hR rfl (by kernel_rfl) rfl (by kernel_rfl) (fun w hS => ex_load rfl (by kernel_rfl) (ld3 (hS.2.1))) (hS10) ?_
  refine wd_take 6 (.pointer (some ⟨O1, 0, none⟩)) hR rfl (by kernel_rfl) rfl (by kernel_rfl) (fun w _ => by kernel_rfl) (hS10) ?_
  refine wd_take 7 (.pointer (some ⟨O1, 2, none⟩)) hR rfl (by kernel_rfl) rfl (by kernel_rfl) (fun w _ => by kernel_rfl) (hS10) ?_
  refine wd_take 8 (.int .i64 (o.lo : Int)) hR rfl (by kernel_rfl) rfl (by kernel_rfl) (fun w hS => ex_load rfl (by kernel_rfl) (ld3 (hS.1))) (hS10) ?_
  refine wd_take 9 (.int .i64 (o.hi - o.lo : Int)) hR rfl (by kernel_rfl) rfl (by kernel_rfl) (fun w _ => ev_wrap (by kernel_rfl) (by omega) (by omega)) (hS10) ?_
  refine wd_take 10 (.int .i64 ((o.hi - o.lo) * 2 : Int)) hR rfl (by kernel_rfl) rfl (by kernel_rfl) (fun w _ => ev_wrap (by kernel_rfl) (by omega) (by omega)) (hS10) ?_
  refine wd_take 11 (.int .i64 (Orb.ph o t : Int)) hR rfl (by kernel_rfl) rfl (by kernel_rfl) (fun w _ => by kernel_rfl) (hS10) ?_
  refine wd_take 12 (.pointer (some ⟨O1, 0, none⟩)) hR rfl (by kernel_rfl) rfl (by kernel_rfl) (fun w _ => by kernel_rfl) (hS10) ?_
  refine wd_take 13 (.pointer (some ⟨O1, 0, none⟩)) hR rfl (by kernel_rfl) rfl (by kernel_rfl) (fun w _ => by kernel_rfl) (hS10) ?_
  refine wd_take 14 (.int .i64 (o.p : Int)) hR rfl (by kernel_rfl) rfl (by kernel_rfl) (fun w hS => ex_load rfl (by kernel_rfl) (ld3 (hS.2.2))) (hS10) ?_
  refine wd_take 15 (.int .i64 (Orb.ph o t : Int)) hR rfl (by kernel_rfl) rfl (by kernel_rfl) (fun w _ => by kernel_rfl) (hS10) ?_
  refine wd_take 16 (.int .i64 (o.p - (Orb.ph o t) : Int)) hR rfl (by kernel_rfl) rfl (by kernel_rfl) (fun w _ => ev_wrap (by kernel_rfl) (by omega) (by omega)) (hS10) ?_
  refine wd_take 17 (.int .i64 (Orb.up o t : Int)) hR rfl (by kernel_rfl) rfl (by kernel_rfl) (fun w _ => ev_int (show _ = Result.ok (Next.value (Value.int .i64 (if (o.p - Orb.ph o t) < (Orb.ph o t) then (o.p - Orb.ph o t) else (Orb.ph o t)))) _ from by kernel_rfl) (by unfold Orb.up; split <;> omega)) (hS10) ?_
  refine wd_take 18 (.int .i64 (((o.hi - o.lo) * 2) * (Orb.up o t) : Int)) hR rfl (by kernel_rfl) rfl (by kernel_rfl) (fun w _ => ev_wrap (by kernel_rfl) (by omega) (by omega)) (hS10) ?_
  refine wd_take 19 (.pointer (some ⟨O1, 0, none⟩)) hR rfl (by kernel_rfl) rfl (by kernel_rfl) (fun w _ => by kernel_rfl) (hS10) ?_
  refine wd_take 20 (.pointer (some ⟨O1, 0, none⟩)) hR rfl (by kernel_rfl) rfl (by kernel_rfl) (fun w _ => by kernel_rfl) (hS10) ?_
  refine wd_take 21 (.int .i64 (o.p : Int)) hR rfl (by kernel_rfl) rfl (by kernel_rfl) (fun w hS => ex_load rfl (by kernel_rfl) (ld3 (hS.2.2))) (hS10) ?_
  refine wd_take 22 (.int .i64 ((o.hi - o.lo) * 2 * Orb.up o t / o.p : Int)) hR rfl (by kernel_rfl) rfl (by kernel_rfl) (fun w _ => ev_int (ex_bin (a := (o.hi - o.lo) * 2 * Orb.up o t) (b := o.p) rfl (by kernel_rfl) (by kernel_rfl) (bin_tdiv (by omega) (by omega) (by omega))) (Int.tdiv_eq_ediv_of_nonneg hm0)) (hS10) ?_
  refine wd_take 23 (.int .i64 (Orb.row o t : Int)) hR rfl (by kernel_rfl) rfl (by kernel_rfl) (fun w _ => ev_wrap (show _ = Result.ok (Next.value (Value.int .i64 (IntKind.i64.wrap (Orb.row o t)))) _ from by kernel_rfl) (by omega) (by omega)) (hS10) ?_
  refine wd_take 24 (.int .i64 (Orb.row o t : Int)) hR rfl (by kernel_rfl) rfl (by kernel_rfl) (fun w _ => by kernel_rfl) (hS10) ?_
  refine wd_end hL hR hK (by kernel_rfl) ?_
  refine qw_then ?_
  refine cw_clean [2] (ws' := [(2, .int .i64 (Orb.row o t : Int))]) (by kernel_rfl) (fun L => ?_)
  refine cw_ret ?_
  refine qw_ret [.int .i64 (Orb.row o t : Int)] rfl ⟨(by kernel_rfl), trivial⟩ ?_
  exact ⟨rfl, hE⟩
set_option maxRecDepth 1000000 in
set_option maxHeartbeats 4000000 in
theorem cell_c (o : Orb) (t : Int) (w : World) (hok : Orb.ok o = true) (h0 : -10 ≤ t) (h1 : t ≤ 1000010) : Calls Try.prog 64 #[.agg #[.int .i64 o.p, .int .i64 o.f, .int .i64 o.lo, .int .i64 o.hi, .int .i64 o.nd, .int .i64 o.tn, .int .i64 o.sl, .int .i64 t]] w fun e w' => e = .returned (.agg #[.int .i64 ((Orb.cx o t : Nat) : Int), .int .i64 ((Orb.cy o t : Nat) : Int)]) ∧ Ext w w' := by
  have hc := Orb.col_bd (o := o) t
  have hr := Orb.row_bd hok t
  refine calls_cw 10 [(0, .agg #[.int .i64 (o.p : Int), .int .i64 (o.f : Int), .int .i64 (o.lo : Int), .int .i64 (o.hi : Int), .int .i64 (o.nd : Int), .int .i64 (o.tn : Int), .int .i64 (o.sl : Int), .int .i64 (t : Int)])] Try.func64 rfl Try.ntmps64 (by kernel_rfl) (by kernel_rfl) (fun L => ?_)
  have hE : Ext w w := Ext.refl w
  refine cw_seq ?_
  refine cw_plain ?_
  refine pl_step rfl (by kernel_rfl) (by kernel_rfl) (by kernel_rfl) (sn_new (us := #[.int .i64 (o.p : Int), .int .i64 (o.f : Int), .int .i64 (o.lo : Int), .int .i64 (o.hi : Int), .int .i64 (o.nd : Int), .int .i64 (o.tn : Int), .int .i64 (o.sl : Int), .int .i64 (t : Int)]) (t := 96) (by kernel_rfl) ?_)
  intro O1 X2 hO hOs hb hbx
  have hzO1 := hO; have hyO1 := hOs; clear hO hOs
  have bO1_0 : BoxAt X2 O1 0 (.int .i64 (o.p : Int)) := hbx 0 _ rfl
  have bO1_1 : BoxAt X2 O1 1 (.int .i64 (o.f : Int)) := hbx 1 _ rfl
  have bO1_2 : BoxAt X2 O1 2 (.int .i64 (o.lo : Int)) := hbx 2 _ rfl
  have bO1_3 : BoxAt X2 O1 3 (.int .i64 (o.hi : Int)) := hbx 3 _ rfl
  have bO1_4 : BoxAt X2 O1 4 (.int .i64 (o.nd : Int)) := hbx 4 _ rfl
  have bO1_5 : BoxAt X2 O1 5 (.int .i64 (o.tn : Int)) := hbx 5 _ rfl
  have bO1_6 : BoxAt X2 O1 6 (.int .i64 (o.sl : Int)) := hbx 6 _ rfl
  have bO1_7 : BoxAt X2 O1 7 (.int .i64 (t : Int)) := hbx 7 _ rfl
  clear hbx
  replace hE := hE.trans hb
  have hs3 := hb.size
  clear hb
  have lt4 := bO1_0.lt
  refine pl_step rfl (by kernel_rfl) (by kernel_rfl) (by kernel_rfl) (sn_new (us := #[.int .i64 0, .int .i64 0]) (t := 57) (by kernel_rfl) ?_)
  intro O5 X6 hO hOs hb hbx
  have hzO5 := hO; have hyO5 := hOs; clear hO hOs
  have bO5_0 : BoxAt X6 O5 0 (.int .i64 0) := hbx 0 _ rfl
  have bO5_1 : BoxAt X6 O5 1 (.int .i64 0) := hbx 1 _ rfl
  clear hbx
  replace hE := hE.trans hb
  replace bO1_0 := BoxAt.ext hb bO1_0
  replace bO1_1 := BoxAt.ext hb bO1_1
  replace bO1_2 := BoxAt.ext hb bO1_2
  replace bO1_3 := BoxAt.ext hb bO1_3
  replace bO1_4 := BoxAt.ext hb bO1_4
  replace bO1_5 := BoxAt.ext hb bO1_5
  replace bO1_6 := BoxAt.ext hb bO1_6
  replace bO1_7 := BoxAt.ext hb bO1_7
  have hs7 := hb.size
  clear hb
  have lt8 := bO5_0.lt
  refine pl_nil ?_
  refine qw_then ?_
  refine cw_seq ?_
  have hX9 : Ext X6 X6 := Ext.refl _
  refine cw_draw [(some 3, [1], []), (some 4, [3], [0]), (some 5, [4], [1]), (some 6, [1], []), (some 7, [6], [3, 1]), (some 8, [7], [4]), (some 9, [5, 8], [2, 5]), (none, [2, 9], [6, 4, 0, 1, 2, 3, 4, 5, 6])] (fun w' => w'.cell? ⟨O1, 0, none⟩ = some (.int .i64 (o.p : Int)) ∧ w'.cell? ⟨O1, 1, none⟩ = some (.int .i64 (o.f : Int)) ∧ w'.cell? ⟨O1, 2, none⟩ = some (.int .i64 (o.lo : Int)) ∧ w'.cell? ⟨O1, 3, none⟩ = some (.int .i64 (o.hi : Int)) ∧ w'.cell? ⟨O1, 4, none⟩ = some (.int .i64 (o.nd : Int)) ∧ w'.cell? ⟨O1, 5, none⟩ = some (.int .i64 (o.tn : Int)) ∧ w'.cell? ⟨O1, 6, none⟩ = some (.int .i64 (o.sl : Int)) ∧ w'.cell? ⟨O1, 7, none⟩ = some (.int .i64 (t : Int))) (by kernel_rfl) (by kernel_rfl) (by kernel_rfl) (by kernel_rfl) ((calm_then calm_body)) (⟨bO1_0.1, bO1_1.1, bO1_2.1, bO1_3.1, bO1_4.1, bO1_5.1, bO1_6.1, bO1_7.1⟩) (fun ops Q X10 hb hL hR hK => ?_)
  replace hE := hE.trans hb
  replace hX9 := hX9.trans hb
  have hs11 := hb.size
  clear hb
  have hS12 := And.intro ((BoxAt.ext hX9 bO1_0).1) (And.intro ((BoxAt.ext hX9 bO1_1).1) (And.intro ((BoxAt.ext hX9 bO1_2).1) (And.intro ((BoxAt.ext hX9 bO1_3).1) (And.intro ((BoxAt.ext hX9 bO1_4).1) (And.intro ((BoxAt.ext hX9 bO1_5).1) (And.intro ((BoxAt.ext hX9 bO1_6).1) ((BoxAt.ext hX9 bO1_7).1)))))))
  refine wd_take 0 (.agg #[.int .i64 (o.p : Int), .int .i64 (o.f : Int), .int .i64 (o.lo : Int), .int .i64 (o.hi : Int), .int .i64 (o.nd : Int), .int .i64 (o.tn : Int), .int .i64 (o.sl : Int), .int .i64 (t : Int)]) hR rfl (by kernel_rfl) rfl (by kernel_rfl) (fun w hS => ex_load rfl (by kernel_rfl) (ld96 (hS.1) (hS.2.1) (hS.2.2.1) (hS.2.2.2.1) (hS.2.2.2.2.1) (hS.2.2.2.2.2.1) (hS.2.2.2.2.2.2.1) (hS.2.2.2.2.2.2.2))) (hS12) ?_
  refine wd_take 3 (.agg #[.int .i64 (o.p : Int), .int .i64 (o.f : Int), .int .i64 (o.lo : Int), .int .i64 (o.hi : Int), .int .i64 (o.nd : Int), .int .i64 (o.tn : Int), .int .i64 (o.sl : Int), .int .i64 (t : Int)]) hR rfl (by kernel_rfl) rfl (by kernel_rfl) (fun w hS => ex_load rfl (by kernel_rfl) (ld96 (hS.1) (hS.2.1) (hS.2.2.1) (hS.2.2.2.1) (hS.2.2.2.2.1) (hS.2.2.2.2.2.1) (hS.2.2.2.2.2.2.1) (hS.2.2.2.2.2.2.2))) (hS12) ?_
  refine wd_step 1 hR rfl (by kernel_rfl) (by kernel_rfl) (by kernel_rfl) (sn_call (f := 92) (args := #[.agg #[.int .i64 (o.p : Int), .int .i64 (o.f : Int), .int .i64 (o.lo : Int), .int .i64 (o.hi : Int), .int .i64 (o.nd : Int), .int .i64 (o.tn : Int), .int .i64 (o.sl : Int), .int .i64 (t : Int)]]) (by kernel_rfl) ((column_c o t _ hok (by omega) (by omega)).mono ?_))
  rintro e w13 ⟨rfl, hb⟩
  replace hE := hE.trans hb
  replace hX9 := hX9.trans hb
  have hs14 := hb.size
  clear hb
  have hS15 := And.intro ((BoxAt.ext hX9 bO1_0).1) (And.intro ((BoxAt.ext hX9 bO1_1).1) (And.intro ((BoxAt.ext hX9 bO1_2).1) (And.intro ((BoxAt.ext hX9 bO1_3).1) (And.intro ((BoxAt.ext hX9 bO1_4).1) (And.intro ((BoxAt.ext hX9 bO1_5).1) (And.intro ((BoxAt.ext hX9 bO1_6).1) ((BoxAt.ext hX9 bO1_7).1)))))))
  refine ⟨_, rfl, hS15, ?_⟩
  refine wd_take 2 (.int .i64 (((Orb.cx o t : Nat) : Int) : Int)) hR rfl (by kernel_rfl) rfl (by kernel_rfl) (fun w _ => ev_int (ex_bin (a := Orb.col o t) (b := 1000) rfl (by kernel_rfl) (by kernel_rfl) (bin_tdiv (by omega) (by omega) (by omega))) ((Int.tdiv_eq_ediv_of_nonneg hc.1).trans (Orb.cx_z o t))) (hS15) ?_
  refine wd_step 4 hR rfl (by kernel_rfl) (by kernel_rfl) (by kernel_rfl) (sn_call (f := 93) (args := #[.agg #[.int .i64 (o.p : Int), .int .i64 (o.f : Int), .int .i64 (o.lo : Int), .int .i64 (o.hi : Int), .int .i64 (o.nd : Int), .int .i64 (o.tn : Int), .int .i64 (o.sl : Int), .int .i64 (t : Int)]]) (by kernel_rfl) ((row_c o t _ hok (by omega) (by omega)).mono ?_))
  rintro e w16 ⟨rfl, hb⟩
  replace hE := hE.trans hb
  replace hX9 := hX9.trans hb
  have hs17 := hb.size
  clear hb
  have hS18 := And.intro ((BoxAt.ext hX9 bO1_0).1) (And.intro ((BoxAt.ext hX9 bO1_1).1) (And.intro ((BoxAt.ext hX9 bO1_2).1) (And.intro ((BoxAt.ext hX9 bO1_3).1) (And.intro ((BoxAt.ext hX9 bO1_4).1) (And.intro ((BoxAt.ext hX9 bO1_5).1) (And.intro ((BoxAt.ext hX9 bO1_6).1) ((BoxAt.ext hX9 bO1_7).1)))))))
  refine ⟨_, rfl, hS18, ?_⟩
  refine wd_take 5 (.int .i64 (((Orb.cy o t : Nat) : Int) : Int)) hR rfl (by kernel_rfl) rfl (by kernel_rfl) (fun w _ => ev_int (ex_bin (a := Orb.row o t) (b := 1000) rfl (by kernel_rfl) (by kernel_rfl) (bin_tdiv (by omega) (by omega) (by omega))) ((Int.tdiv_eq_ediv_of_nonneg hr.1).trans (Orb.cy_z hok t))) (hS18) ?_
  refine wd_take 6 (.agg #[.int .i64 (((Orb.cx o t : Nat) : Int) : Int), .int .i64 (((Orb.cy o t : Nat) : Int) : Int)]) hR rfl (by kernel_rfl) rfl (by kernel_rfl) (fun w _ => by kernel_rfl) (hS18) ?_
  have bO1_t20 := (BoxAt.ext hX9 bO1_0)
  have bO1_t21 := (BoxAt.ext hX9 bO1_1)
  have bO1_t22 := (BoxAt.ext hX9 bO1_2)
  have bO1_t23 := (BoxAt.ext hX9 bO1_3)
  have bO1_t24 := (BoxAt.ext hX9 bO1_4)
  have bO1_t25 := (BoxAt.ext hX9 bO1_5)
  have bO1_t26 := (BoxAt.ext hX9 bO1_6)
  have bO1_t27 := (BoxAt.ext hX9 bO1_7)
  have bO5_t28 := (BoxAt.ext hX9 bO5_0)
  have bO5_t29 := (BoxAt.ext hX9 bO5_1)
  refine wd_step 7 hR rfl (by kernel_rfl) (by kernel_rfl) (by kernel_rfl) (sn_set2 (O := O5) (j := 0) (v := .int .i64 (((Orb.cx o t : Nat) : Int) : Int)) (v' := .int .i64 (((Orb.cy o t : Nat) : Int) : Int)) (ex_store (p := .pointer (some ⟨O5, 0, none⟩)) (v := .agg #[.int .i64 (((Orb.cx o t : Nat) : Int) : Int), .int .i64 (((Orb.cy o t : Nat) : Int) : Int)]) rfl (by kernel_rfl) (by kernel_rfl) (st57 bO5_t28.1 bO5_t28.2 bO5_t29.1 bO5_t29.2)) bO5_t28 bO5_t29 ?_)
  intro X19 ho hv0 hv1 hk
  replace hE := ho.ext hE (Nat.le_trans hs3 (Nat.le_of_eq hzO5))
  replace bO1_t20 := ho.box (Nat.ne_of_gt (Nat.lt_of_lt_of_le lt4 (Nat.le_of_eq hzO5))) bO1_t20
  replace bO1_t21 := ho.box (Nat.ne_of_gt (Nat.lt_of_lt_of_le lt4 (Nat.le_of_eq hzO5))) bO1_t21
  replace bO1_t22 := ho.box (Nat.ne_of_gt (Nat.lt_of_lt_of_le lt4 (Nat.le_of_eq hzO5))) bO1_t22
  replace bO1_t23 := ho.box (Nat.ne_of_gt (Nat.lt_of_lt_of_le lt4 (Nat.le_of_eq hzO5))) bO1_t23
  replace bO1_t24 := ho.box (Nat.ne_of_gt (Nat.lt_of_lt_of_le lt4 (Nat.le_of_eq hzO5))) bO1_t24
  replace bO1_t25 := ho.box (Nat.ne_of_gt (Nat.lt_of_lt_of_le lt4 (Nat.le_of_eq hzO5))) bO1_t25
  replace bO1_t26 := ho.box (Nat.ne_of_gt (Nat.lt_of_lt_of_le lt4 (Nat.le_of_eq hzO5))) bO1_t26
  replace bO1_t27 := ho.box (Nat.ne_of_gt (Nat.lt_of_lt_of_le lt4 (Nat.le_of_eq hzO5))) bO1_t27
  have hs30 : w16.heap.size ≤ X19.heap.size := Nat.le_of_eq ho.size.symm
  clear ho hk bO5_t28 bO5_t29
  have bO5_t28 := hv0; clear hv0
  have bO5_t29 := hv1; clear hv1
  have hS31 := And.intro (bO1_t20.1) (And.intro (bO1_t21.1) (And.intro (bO1_t22.1) (And.intro (bO1_t23.1) (And.intro (bO1_t24.1) (And.intro (bO1_t25.1) (And.intro (bO1_t26.1) (bO1_t27.1)))))))
  refine ⟨hS31, ?_⟩
  refine wd_end hL hR hK (by kernel_rfl) ?_
  refine qw_then ?_
  refine cw_ret ?_
  refine qw_ret [.agg #[.int .i64 (((Orb.cx o t : Nat) : Int) : Int), .int .i64 (((Orb.cy o t : Nat) : Int) : Int)]] rfl ⟨⟨_, by kernel_rfl, res_ld (ld57 (bO5_t28.1) (bO5_t29.1))⟩, trivial⟩ ?_
  exact ⟨rfl, hE⟩
set_option maxRecDepth 1000000 in
set_option maxHeartbeats 4000000 in
theorem at_y (o : Orb) (t d : Int) (w : World) (hat : Orb.atB o t d = true) : Calls Try.prog 63 #[.agg #[.int .i64 o.p, .int .i64 o.f, .int .i64 o.lo, .int .i64 o.hi, .int .i64 o.nd, .int .i64 o.tn, .int .i64 o.sl], .int .i64 t, .int .i64 d] w fun e w' => e = .returned (.tuple #[.agg #[.int .i64 o.p, .int .i64 o.f, .int .i64 o.lo, .int .i64 o.hi, .int .i64 o.nd, .int .i64 o.tn, .int .i64 o.sl, .int .i64 (t - d)], .bool true]) ∧ Ext w w' := by
  replace hat : (Globe.inB t 0 1000000 = true ∧ Globe.inB d (-10) 10 = true) ∧ Orb.ok o = true := by simpa [Orb.atB] using hat
  have h1 := Globe.inB_t.1 hat.1.1
  have h2 := Globe.inB_t.1 hat.1.2
  refine calls_cw 25 [(2, .int .i64 (d : Int)), (1, .int .i64 (t : Int)), (0, .agg #[.int .i64 (o.p : Int), .int .i64 (o.f : Int), .int .i64 (o.lo : Int), .int .i64 (o.hi : Int), .int .i64 (o.nd : Int), .int .i64 (o.tn : Int), .int .i64 (o.sl : Int)])] Try.func63 rfl Try.ntmps63 (by kernel_rfl) (by kernel_rfl) (fun L => ?_)
  have hE : Ext w w := Ext.refl w
  refine cw_seq ?_
  refine cw_plain ?_
  refine pl_step rfl (by kernel_rfl) (by kernel_rfl) (by kernel_rfl) (sn_new (us := #[.int .i64 (o.p : Int), .int .i64 (o.f : Int), .int .i64 (o.lo : Int), .int .i64 (o.hi : Int), .int .i64 (o.nd : Int), .int .i64 (o.tn : Int), .int .i64 (o.sl : Int)]) (t := 24) (by kernel_rfl) ?_)
  intro O1 X2 hO hOs hb hbx
  have hzO1 := hO; have hyO1 := hOs; clear hO hOs
  have bO1_0 : BoxAt X2 O1 0 (.int .i64 (o.p : Int)) := hbx 0 _ rfl
  have bO1_1 : BoxAt X2 O1 1 (.int .i64 (o.f : Int)) := hbx 1 _ rfl
  have bO1_2 : BoxAt X2 O1 2 (.int .i64 (o.lo : Int)) := hbx 2 _ rfl
  have bO1_3 : BoxAt X2 O1 3 (.int .i64 (o.hi : Int)) := hbx 3 _ rfl
  have bO1_4 : BoxAt X2 O1 4 (.int .i64 (o.nd : Int)) := hbx 4 _ rfl
  have bO1_5 : BoxAt X2 O1 5 (.int .i64 (o.tn : Int)) := hbx 5 _ rfl
  have bO1_6 : BoxAt X2 O1 6 (.int .i64 (o.sl : Int)) := hbx 6 _ rfl
  clear hbx
  replace hE := hE.trans hb
  have hs3 := hb.size
  clear hb
  have lt4 := bO1_0.lt
  refine pl_step rfl (by kernel_rfl) (by kernel_rfl) (by kernel_rfl) (sn_new (us := #[.int .i64 0, .int .i64 0, .int .i64 0, .int .i64 0, .int .i64 0, .int .i64 0, .int .i64 0, .int .i64 0]) (t := 96) (by kernel_rfl) ?_)
  intro O5 X6 hO hOs hb hbx
  have hzO5 := hO; have hyO5 := hOs; clear hO hOs
  have bO5_0 : BoxAt X6 O5 0 (.int .i64 0) := hbx 0 _ rfl
  have bO5_1 : BoxAt X6 O5 1 (.int .i64 0) := hbx 1 _ rfl
  have bO5_2 : BoxAt X6 O5 2 (.int .i64 0) := hbx 2 _ rfl
  have bO5_3 : BoxAt X6 O5 3 (.int .i64 0) := hbx 3 _ rfl
  have bO5_4 : BoxAt X6 O5 4 (.int .i64 0) := hbx 4 _ rfl
  have bO5_5 : BoxAt X6 O5 5 (.int .i64 0) := hbx 5 _ rfl
  have bO5_6 : BoxAt X6 O5 6 (.int .i64 0) := hbx 6 _ rfl
  have bO5_7 : BoxAt X6 O5 7 (.int .i64 0) := hbx 7 _ rfl
  clear hbx
  replace hE := hE.trans hb
  replace bO1_0 := BoxAt.ext hb bO1_0
  replace bO1_1 := BoxAt.ext hb bO1_1
  replace bO1_2 := BoxAt.ext hb bO1_2
  replace bO1_3 := BoxAt.ext hb bO1_3
  replace bO1_4 := BoxAt.ext hb bO1_4
  replace bO1_5 := BoxAt.ext hb bO1_5
  replace bO1_6 := BoxAt.ext hb bO1_6
  have hs7 := hb.size
  clear hb
  have lt8 := bO5_0.lt
  refine pl_take (.bool false) rfl (by kernel_rfl) (by kernel_rfl) (by kernel_rfl) (by kernel_rfl) ?_
  refine pl_nil ?_
  refine qw_then ?_
  refine cw_seq ?_
  have hX9 : Ext X6 X6 := Ext.refl _
  refine cw_plain ?_
  refine pl_take (.int .i64 (t : Int)) rfl (by kernel_rfl) (by kernel_rfl) (by kernel_rfl) (by kernel_rfl) ?_
  refine pl_step rfl (by kernel_rfl) (by kernel_rfl) (by kernel_rfl) (sn_call (f := 87) (args := #[.int .i64 (t : Int), .int .i64 0, .int .i64 1000000]) (by kernel_rfl) ((orbit_in_r (r := true) t 0 1000000 _ (hat.1.1)).mono ?_))
  rintro e w10 ⟨rfl, hb⟩
  replace hE := hE.trans hb
  replace hX9 := hX9.trans hb
  have hs11 := hb.size
  clear hb
  refine ⟨_, rfl, ?_⟩
  refine pl_take (.bool true) rfl (by kernel_rfl) (by kernel_rfl) (by kernel_rfl) (by kernel_rfl) ?_
  refine pl_take (.int .i64 (d : Int)) rfl (by kernel_rfl) (by kernel_rfl) (by kernel_rfl) (by kernel_rfl) ?_
  refine pl_step rfl (by kernel_rfl) (by kernel_rfl) (by kernel_rfl) (sn_call (f := 87) (args := #[.int .i64 (d : Int), .int .i64 (-10 : Int), .int .i64 10]) (by kernel_rfl) ((orbit_in_r (r := true) d (-10) 10 _ (hat.1.2)).mono ?_))
  rintro e w12 ⟨rfl, hb⟩
  replace hE := hE.trans hb
  replace hX9 := hX9.trans hb
  have hs13 := hb.size
  clear hb
  refine ⟨_, rfl, ?_⟩
  refine pl_take (.bool true) rfl (by kernel_rfl) (by kernel_rfl) (by kernel_rfl) (by kernel_rfl) ?_
  refine pl_take (.bool true) rfl (by kernel_rfl) (by kernel_rfl) (by kernel_rfl) (by kernel_rfl) ?_
  refine pl_take (.agg #[.int .i64 (o.p : Int), .int .i64 (o.f : Int), .int .i64 (o.lo : Int), .int .i64 (o.hi : Int), .int .i64 (o.nd : Int), .int .i64 (o.tn : Int), .int .i64 (o.sl : Int)]) rfl (by kernel_rfl) (by kernel_rfl) (by kernel_rfl) (ex_load rfl (by kernel_rfl) (ld24 ((BoxAt.ext hX9 bO1_0).1) ((BoxAt.ext hX9 bO1_1).1) ((BoxAt.ext hX9 bO1_2).1) ((BoxAt.ext hX9 bO1_3).1) ((BoxAt.ext hX9 bO1_4).1) ((BoxAt.ext hX9 bO1_5).1) ((BoxAt.ext hX9 bO1_6).1))) ?_
  refine pl_step rfl (by kernel_rfl) (by kernel_rfl) (by kernel_rfl) (sn_call (f := 56) (args := #[.agg #[.int .i64 (o.p : Int), .int .i64 (o.f : Int), .int .i64 (o.lo : Int), .int .i64 (o.hi : Int), .int .i64 (o.nd : Int), .int .i64 (o.tn : Int), .int .i64 (o.sl : Int)]]) (by kernel_rfl) ((oValid_r (r := true) _ (hat.2)).mono ?_))
  rintro e w14 ⟨rfl, hb⟩
  replace hE := hE.trans hb
  replace hX9 := hX9.trans hb
  have hs15 := hb.size
  clear hb
  refine ⟨_, rfl, ?_⟩
  refine pl_take (.bool true) rfl (by kernel_rfl) (by kernel_rfl) (by kernel_rfl) (by kernel_rfl) ?_
  refine pl_take (.bool true) rfl (by kernel_rfl) (by kernel_rfl) (by kernel_rfl) (by kernel_rfl) ?_
  refine pl_nil ?_
  refine qw_then ?_
  refine cw_clean [1, 2, 3, 6, 8] (ws' := [(1, .int .i64 (t : Int)), (2, .int .i64 (d : Int)), (3, .pointer (some ⟨O1, 0, none⟩)), (6, .pointer (some ⟨O5, 0, none⟩)), (8, .bool true)]) (by kernel_rfl) (fun L => ?_)
  refine cw_seq ?_
  refine cw_plain ?_
  refine pl_take (.agg #[.int .i64 (o.p : Int), .int .i64 (o.f : Int), .int .i64 (o.lo : Int), .int .i64 (o.hi : Int), .int .i64 (o.nd : Int), .int .i64 (o.tn : Int), .int .i64 (o.sl : Int)]) rfl (by kernel_rfl) (by kernel_rfl) (by kernel_rfl) (ex_load rfl (by kernel_rfl) (ld24 ((BoxAt.ext hX9 bO1_0).1) ((BoxAt.ext hX9 bO1_1).1) ((BoxAt.ext hX9 bO1_2).1) ((BoxAt.ext hX9 bO1_3).1) ((BoxAt.ext hX9 bO1_4).1) ((BoxAt.ext hX9 bO1_5).1) ((BoxAt.ext hX9 bO1_6).1))) ?_
  refine pl_take (.int .i64 (t : Int)) rfl (by kernel_rfl) (by kernel_rfl) (by kernel_rfl) (by kernel_rfl) ?_
  refine pl_take (.int .i64 (d : Int)) rfl (by kernel_rfl) (by kernel_rfl) (by kernel_rfl) (by kernel_rfl) ?_
  refine pl_take (.int .i64 (t - d : Int)) rfl (by kernel_rfl) (by kernel_rfl) (by kernel_rfl) (ev_wrap (by kernel_rfl) (by omega) (by omega)) ?_
  refine pl_take (.agg #[.int .i64 (o.p : Int), .int .i64 (o.f : Int), .int .i64 (o.lo : Int), .int .i64 (o.hi : Int), .int .i64 (o.nd : Int), .int .i64 (o.tn : Int), .int .i64 (o.sl : Int), .int .i64 (t - d : Int)]) rfl (by kernel_rfl) (by kernel_rfl) (by kernel_rfl) (by kernel_rfl) ?_
  refine pl_take (.bool true) rfl (by kernel_rfl) (by kernel_rfl) (by kernel_rfl) (by kernel_rfl) ?_
  have bO1_t17 := (BoxAt.ext hX9 bO1_0)
  have bO1_t18 := (BoxAt.ext hX9 bO1_1)
  have bO1_t19 := (BoxAt.ext hX9 bO1_2)
  have bO1_t20 := (BoxAt.ext hX9 bO1_3)
  have bO1_t21 := (BoxAt.ext hX9 bO1_4)
  have bO1_t22 := (BoxAt.ext hX9 bO1_5)
  have bO1_t23 := (BoxAt.ext hX9 bO1_6)
  have bO5_t24 := (BoxAt.ext hX9 bO5_0)
  have bO5_t25 := (BoxAt.ext hX9 bO5_1)
  have bO5_t26 := (BoxAt.ext hX9 bO5_2)
  have bO5_t27 := (BoxAt.ext hX9 bO5_3)
  have bO5_t28 := (BoxAt.ext hX9 bO5_4)
  have bO5_t29 := (BoxAt.ext hX9 bO5_5)
  have bO5_t30 := (BoxAt.ext hX9 bO5_6)
  have bO5_t31 := (BoxAt.ext hX9 bO5_7)
  refine pl_put rfl (by kernel_rfl) (by kernel_rfl) (sn_setK8 (O := O5) (j := 0) (v0 := .int .i64 (o.p : Int)) (v1 := .int .i64 (o.f : Int)) (v2 := .int .i64 (o.lo : Int)) (v3 := .int .i64 (o.hi : Int)) (v4 := .int .i64 (o.nd : Int)) (v5 := .int .i64 (o.tn : Int)) (v6 := .int .i64 (o.sl : Int)) (v7 := .int .i64 (t - d : Int)) (ex_store (p := .pointer (some ⟨O5, 0, none⟩)) (v := .agg #[.int .i64 (o.p : Int), .int .i64 (o.f : Int), .int .i64 (o.lo : Int), .int .i64 (o.hi : Int), .int .i64 (o.nd : Int), .int .i64 (o.tn : Int), .int .i64 (o.sl : Int), .int .i64 (t - d : Int)]) rfl (by kernel_rfl) (by kernel_rfl) (st96 bO5_t24.1 bO5_t24.2 bO5_t25.1 bO5_t25.2 bO5_t26.1 bO5_t26.2 bO5_t27.1 bO5_t27.2 bO5_t28.1 bO5_t28.2 bO5_t29.1 bO5_t29.2 bO5_t30.1 bO5_t30.2 bO5_t31.1 bO5_t31.2)) bO5_t24 bO5_t25 bO5_t26 bO5_t27 bO5_t28 bO5_t29 bO5_t30 bO5_t31 ?_)
  intro X16 ho hv0 hv1 hv2 hv3 hv4 hv5 hv6 hv7 hk
  replace hE := ho.ext hE (Nat.le_trans hs3 (Nat.le_of_eq hzO5))
  replace bO1_t17 := ho.box (Nat.ne_of_gt (Nat.lt_of_lt_of_le lt4 (Nat.le_of_eq hzO5))) bO1_t17
  replace bO1_t18 := ho.box (Nat.ne_of_gt (Nat.lt_of_lt_of_le lt4 (Nat.le_of_eq hzO5))) bO1_t18
  replace bO1_t19 := ho.box (Nat.ne_of_gt (Nat.lt_of_lt_of_le lt4 (Nat.le_of_eq hzO5))) bO1_t19
  replace bO1_t20 := ho.box (Nat.ne_of_gt (Nat.lt_of_lt_of_le lt4 (Nat.le_of_eq hzO5))) bO1_t20
  replace bO1_t21 := ho.box (Nat.ne_of_gt (Nat.lt_of_lt_of_le lt4 (Nat.le_of_eq hzO5))) bO1_t21
  replace bO1_t22 := ho.box (Nat.ne_of_gt (Nat.lt_of_lt_of_le lt4 (Nat.le_of_eq hzO5))) bO1_t22
  replace bO1_t23 := ho.box (Nat.ne_of_gt (Nat.lt_of_lt_of_le lt4 (Nat.le_of_eq hzO5))) bO1_t23
  have hs32 : w14.heap.size ≤ X16.heap.size := Nat.le_of_eq ho.size.symm
  clear ho hk bO5_t24 bO5_t25 bO5_t26 bO5_t27 bO5_t28 bO5_t29 bO5_t30 bO5_t31
  have bO5_t24 := hv0; clear hv0
  have bO5_t25 := hv1; clear hv1
  have bO5_t26 := hv2; clear hv2
  have bO5_t27 := hv3; clear hv3
  have bO5_t28 := hv4; clear hv4
  have bO5_t29 := hv5; clear hv5
  have bO5_t30 := hv6; clear hv6
  have bO5_t31 := hv7; clear hv7
  refine pl_take (.bool true) rfl (by kernel_rfl) (by kernel_rfl) (by kernel_rfl) (by kernel_rfl) ?_
  refine pl_nil ?_
  refine qw_then ?_
  refine cw_ret ?_
  refine qw_ret [.agg #[.int .i64 (o.p : Int), .int .i64 (o.f : Int), .int .i64 (o.lo : Int), .int .i64 (o.hi : Int), .int .i64 (o.nd : Int), .int .i64 (o.tn : Int), .int .i64 (o.sl : Int), .int .i64 (t - d : Int)], .bool true] rfl ⟨⟨_, by kernel_rfl, res_ld (ld96 (bO5_t24.1) (bO5_t25.1) (bO5_t26.1) (bO5_t27.1) (bO5_t28.1) (bO5_t29.1) (bO5_t30.1) (bO5_t31.1))⟩, (by kernel_rfl), trivial⟩ ?_
  exact ⟨rfl, hE⟩
set_option maxRecDepth 1000000 in
set_option maxHeartbeats 4000000 in
theorem at_n (o : Orb) (t d : Int) (w : World) (hat : Orb.atB o t d = false) : Calls Try.prog 63 #[.agg #[.int .i64 o.p, .int .i64 o.f, .int .i64 o.lo, .int .i64 o.hi, .int .i64 o.nd, .int .i64 o.tn, .int .i64 o.sl], .int .i64 t, .int .i64 d] w fun e w' => ∃ m : Int, e = .returned (.tuple #[.agg #[.int .i64 o.p, .int .i64 o.f, .int .i64 o.lo, .int .i64 o.hi, .int .i64 o.nd, .int .i64 o.tn, .int .i64 o.sl, .int .i64 m], .bool false]) ∧ Ext w w' := by
  refine calls_cw 25 [(2, .int .i64 (d : Int)), (1, .int .i64 (t : Int)), (0, .agg #[.int .i64 (o.p : Int), .int .i64 (o.f : Int), .int .i64 (o.lo : Int), .int .i64 (o.hi : Int), .int .i64 (o.nd : Int), .int .i64 (o.tn : Int), .int .i64 (o.sl : Int)])] Try.func63 rfl Try.ntmps63 (by kernel_rfl) (by kernel_rfl) (fun L => ?_)
  have hE : Ext w w := Ext.refl w
  refine cw_seq ?_
  refine cw_plain ?_
  refine pl_step rfl (by kernel_rfl) (by kernel_rfl) (by kernel_rfl) (sn_new (us := #[.int .i64 (o.p : Int), .int .i64 (o.f : Int), .int .i64 (o.lo : Int), .int .i64 (o.hi : Int), .int .i64 (o.nd : Int), .int .i64 (o.tn : Int), .int .i64 (o.sl : Int)]) (t := 24) (by kernel_rfl) ?_)
  intro O1 X2 hO hOs hb hbx
  have hzO1 := hO; have hyO1 := hOs; clear hO hOs
  have bO1_0 : BoxAt X2 O1 0 (.int .i64 (o.p : Int)) := hbx 0 _ rfl
  have bO1_1 : BoxAt X2 O1 1 (.int .i64 (o.f : Int)) := hbx 1 _ rfl
  have bO1_2 : BoxAt X2 O1 2 (.int .i64 (o.lo : Int)) := hbx 2 _ rfl
  have bO1_3 : BoxAt X2 O1 3 (.int .i64 (o.hi : Int)) := hbx 3 _ rfl
  have bO1_4 : BoxAt X2 O1 4 (.int .i64 (o.nd : Int)) := hbx 4 _ rfl
  have bO1_5 : BoxAt X2 O1 5 (.int .i64 (o.tn : Int)) := hbx 5 _ rfl
  have bO1_6 : BoxAt X2 O1 6 (.int .i64 (o.sl : Int)) := hbx 6 _ rfl
  clear hbx
  replace hE := hE.trans hb
  have hs3 := hb.size
  clear hb
  have lt4 := bO1_0.lt
  refine pl_step rfl (by kernel_rfl) (by kernel_rfl) (by kernel_rfl) (sn_new (us := #[.int .i64 0, .int .i64 0, .int .i64 0, .int .i64 0, .int .i64 0, .int .i64 0, .int .i64 0, .int .i64 0]) (t := 96) (by kernel_rfl) ?_)
  intro O5 X6 hO hOs hb hbx
  have hzO5 := hO; have hyO5 := hOs; clear hO hOs
  have bO5_0 : BoxAt X6 O5 0 (.int .i64 0) := hbx 0 _ rfl
  have bO5_1 : BoxAt X6 O5 1 (.int .i64 0) := hbx 1 _ rfl
  have bO5_2 : BoxAt X6 O5 2 (.int .i64 0) := hbx 2 _ rfl
  have bO5_3 : BoxAt X6 O5 3 (.int .i64 0) := hbx 3 _ rfl
  have bO5_4 : BoxAt X6 O5 4 (.int .i64 0) := hbx 4 _ rfl
  have bO5_5 : BoxAt X6 O5 5 (.int .i64 0) := hbx 5 _ rfl
  have bO5_6 : BoxAt X6 O5 6 (.int .i64 0) := hbx 6 _ rfl
  have bO5_7 : BoxAt X6 O5 7 (.int .i64 0) := hbx 7 _ rfl
  clear hbx
  replace hE := hE.trans hb
  replace bO1_0 := BoxAt.ext hb bO1_0
  replace bO1_1 := BoxAt.ext hb bO1_1
  replace bO1_2 := BoxAt.ext hb bO1_2
  replace bO1_3 := BoxAt.ext hb bO1_3
  replace bO1_4 := BoxAt.ext hb bO1_4
  replace bO1_5 := BoxAt.ext hb bO1_5
  replace bO1_6 := BoxAt.ext hb bO1_6
  have hs7 := hb.size
  clear hb
  have lt8 := bO5_0.lt
  refine pl_take (.bool false) rfl (by kernel_rfl) (by kernel_rfl) (by kernel_rfl) (by kernel_rfl) ?_
  refine pl_nil ?_
  refine qw_then ?_
  refine cw_seq ?_
  have hX9 : Ext X6 X6 := Ext.refl _
  refine cw_plain ?_
  refine pl_take (.int .i64 (t : Int)) rfl (by kernel_rfl) (by kernel_rfl) (by kernel_rfl) (by kernel_rfl) ?_
  rcases Bool.eq_false_or_eq_true (Globe.inB t 0 1000000) with hb10 | hb10
  ·
    have hq11 := Globe.inB_t.1 hb10
    refine pl_step rfl (by kernel_rfl) (by kernel_rfl) (by kernel_rfl) (sn_call (f := 87) (args := #[.int .i64 (t : Int), .int .i64 0, .int .i64 1000000]) (by kernel_rfl) ((orbit_in_r (r := true) t 0 1000000 _ (hb10)).mono ?_))
    rintro e w12 ⟨rfl, hb⟩
    replace hE := hE.trans hb
    replace hX9 := hX9.trans hb
    have hs13 := hb.size
    clear hb
    refine ⟨_, rfl, ?_⟩
    refine pl_take (.bool true) rfl (by kernel_rfl) (by kernel_rfl) (by kernel_rfl) (by kernel_rfl) ?_
    refine pl_take (.int .i64 (d : Int)) rfl (by kernel_rfl) (by kernel_rfl) (by kernel_rfl) (by kernel_rfl) ?_
    rcases Bool.eq_false_or_eq_true (Globe.inB d (-10) 10) with hb14 | hb14
    ·
      have hq15 := Globe.inB_t.1 hb14
      refine pl_step rfl (by kernel_rfl) (by kernel_rfl) (by kernel_rfl) (sn_call (f := 87) (args := #[.int .i64 (d : Int), .int .i64 (-10 : Int), .int .i64 10]) (by kernel_rfl) ((orbit_in_r (r := true) d (-10) 10 _ (hb14)).mono ?_))
      rintro e w16 ⟨rfl, hb⟩
      replace hE := hE.trans hb
      replace hX9 := hX9.trans hb
      have hs17 := hb.size
      clear hb
      refine ⟨_, rfl, ?_⟩
      refine pl_take (.bool true) rfl (by kernel_rfl) (by kernel_rfl) (by kernel_rfl) (by kernel_rfl) ?_
      refine pl_take (.bool true) rfl (by kernel_rfl) (by kernel_rfl) (by kernel_rfl) (by kernel_rfl) ?_
      refine pl_take (.agg #[.int .i64 (o.p : Int), .int .i64 (o.f : Int), .int .i64 (o.lo : Int), .int .i64 (o.hi : Int), .int .i64 (o.nd : Int), .int .i64 (o.tn : Int), .int .i64 (o.sl : Int)]) rfl (by kernel_rfl) (by kernel_rfl) (by kernel_rfl) (ex_load rfl (by kernel_rfl) (ld24 ((BoxAt.ext hX9 bO1_0).1) ((BoxAt.ext hX9 bO1_1).1) ((BoxAt.ext hX9 bO1_2).1) ((BoxAt.ext hX9 bO1_3).1) ((BoxAt.ext hX9 bO1_4).1) ((BoxAt.ext hX9 bO1_5).1) ((BoxAt.ext hX9 bO1_6).1))) ?_
      rcases Bool.eq_false_or_eq_true (Orb.ok o) with hb18 | hb18
      ·
        refine pl_step rfl (by kernel_rfl) (by kernel_rfl) (by kernel_rfl) (sn_call (f := 56) (args := #[.agg #[.int .i64 (o.p : Int), .int .i64 (o.f : Int), .int .i64 (o.lo : Int), .int .i64 (o.hi : Int), .int .i64 (o.nd : Int), .int .i64 (o.tn : Int), .int .i64 (o.sl : Int)]]) (by kernel_rfl) ((oValid_r (r := true) _ (hb18)).mono ?_))
        rintro e w19 ⟨rfl, hb⟩
        replace hE := hE.trans hb
        replace hX9 := hX9.trans hb
        have hs20 := hb.size
        clear hb
        refine ⟨_, rfl, ?_⟩
        refine pl_take (.bool true) rfl (by kernel_rfl) (by kernel_rfl) (by kernel_rfl) (by kernel_rfl) ?_
        refine pl_take (.bool true) rfl (by kernel_rfl) (by kernel_rfl) (by kernel_rfl) (by kernel_rfl) ?_
        refine pl_nil ?_
        refine qw_then ?_
        refine cw_clean [1, 2, 3, 6, 8] (ws' := [(1, .int .i64 (t : Int)), (2, .int .i64 (d : Int)), (3, .pointer (some ⟨O1, 0, none⟩)), (6, .pointer (some ⟨O5, 0, none⟩)), (8, .bool true)]) (by kernel_rfl) (fun L => ?_)
        refine cw_seq ?_
        refine cw_plain ?_
        refine pl_take (.agg #[.int .i64 (o.p : Int), .int .i64 (o.f : Int), .int .i64 (o.lo : Int), .int .i64 (o.hi : Int), .int .i64 (o.nd : Int), .int .i64 (o.tn : Int), .int .i64 (o.sl : Int)]) rfl (by kernel_rfl) (by kernel_rfl) (by kernel_rfl) (ex_load rfl (by kernel_rfl) (ld24 ((BoxAt.ext hX9 bO1_0).1) ((BoxAt.ext hX9 bO1_1).1) ((BoxAt.ext hX9 bO1_2).1) ((BoxAt.ext hX9 bO1_3).1) ((BoxAt.ext hX9 bO1_4).1) ((BoxAt.ext hX9 bO1_5).1) ((BoxAt.ext hX9 bO1_6).1))) ?_
        refine pl_take (.int .i64 (t : Int)) rfl (by kernel_rfl) (by kernel_rfl) (by kernel_rfl) (by kernel_rfl) ?_
        refine pl_take (.int .i64 (d : Int)) rfl (by kernel_rfl) (by kernel_rfl) (by kernel_rfl) (by kernel_rfl) ?_
        refine pl_take (.int .i64 (IntKind.i64.wrap (t - d) : Int)) rfl (by kernel_rfl) (by kernel_rfl) (by kernel_rfl) (by kernel_rfl) ?_
        refine pl_take (.agg #[.int .i64 (o.p : Int), .int .i64 (o.f : Int), .int .i64 (o.lo : Int), .int .i64 (o.hi : Int), .int .i64 (o.nd : Int), .int .i64 (o.tn : Int), .int .i64 (o.sl : Int), .int .i64 (IntKind.i64.wrap (t - d) : Int)]) rfl (by kernel_rfl) (by kernel_rfl) (by kernel_rfl) (by kernel_rfl) ?_
        refine pl_take (.bool true) rfl (by kernel_rfl) (by kernel_rfl) (by kernel_rfl) (by kernel_rfl) ?_
        have bO1_t22 := (BoxAt.ext hX9 bO1_0)
        have bO1_t23 := (BoxAt.ext hX9 bO1_1)
        have bO1_t24 := (BoxAt.ext hX9 bO1_2)
        have bO1_t25 := (BoxAt.ext hX9 bO1_3)
        have bO1_t26 := (BoxAt.ext hX9 bO1_4)
        have bO1_t27 := (BoxAt.ext hX9 bO1_5)
        have bO1_t28 := (BoxAt.ext hX9 bO1_6)
        have bO5_t29 := (BoxAt.ext hX9 bO5_0)
        have bO5_t30 := (BoxAt.ext hX9 bO5_1)
        have bO5_t31 := (BoxAt.ext hX9 bO5_2)
        have bO5_t32 := (BoxAt.ext hX9 bO5_3)
        have bO5_t33 := (BoxAt.ext hX9 bO5_4)
        have bO5_t34 := (BoxAt.ext hX9 bO5_5)
        have bO5_t35 := (BoxAt.ext hX9 bO5_6)
        have bO5_t36 := (BoxAt.ext hX9 bO5_7)
        refine pl_put rfl (by kernel_rfl) (by kernel_rfl) (sn_setK8 (O := O5) (j := 0) (v0 := .int .i64 (o.p : Int)) (v1 := .int .i64 (o.f : Int)) (v2 := .int .i64 (o.lo : Int)) (v3 := .int .i64 (o.hi : Int)) (v4 := .int .i64 (o.nd : Int)) (v5 := .int .i64 (o.tn : Int)) (v6 := .int .i64 (o.sl : Int)) (v7 := .int .i64 (IntKind.i64.wrap (t - d) : Int)) (ex_store (p := .pointer (some ⟨O5, 0, none⟩)) (v := .agg #[.int .i64 (o.p : Int), .int .i64 (o.f : Int), .int .i64 (o.lo : Int), .int .i64 (o.hi : Int), .int .i64 (o.nd : Int), .int .i64 (o.tn : Int), .int .i64 (o.sl : Int), .int .i64 (IntKind.i64.wrap (t - d) : Int)]) rfl (by kernel_rfl) (by kernel_rfl) (st96 bO5_t29.1 bO5_t29.2 bO5_t30.1 bO5_t30.2 bO5_t31.1 bO5_t31.2 bO5_t32.1 bO5_t32.2 bO5_t33.1 bO5_t33.2 bO5_t34.1 bO5_t34.2 bO5_t35.1 bO5_t35.2 bO5_t36.1 bO5_t36.2)) bO5_t29 bO5_t30 bO5_t31 bO5_t32 bO5_t33 bO5_t34 bO5_t35 bO5_t36 ?_)
        intro X21 ho hv0 hv1 hv2 hv3 hv4 hv5 hv6 hv7 hk
        replace hE := ho.ext hE (Nat.le_trans hs3 (Nat.le_of_eq hzO5))
        replace bO1_t22 := ho.box (Nat.ne_of_gt (Nat.lt_of_lt_of_le lt4 (Nat.le_of_eq hzO5))) bO1_t22
        replace bO1_t23 := ho.box (Nat.ne_of_gt (Nat.lt_of_lt_of_le lt4 (Nat.le_of_eq hzO5))) bO1_t23
        replace bO1_t24 := ho.box (Nat.ne_of_gt (Nat.lt_of_lt_of_le lt4 (Nat.le_of_eq hzO5))) bO1_t24
        replace bO1_t25 := ho.box (Nat.ne_of_gt (Nat.lt_of_lt_of_le lt4 (Nat.le_of_eq hzO5))) bO1_t25
        replace bO1_t26 := ho.box (Nat.ne_of_gt (Nat.lt_of_lt_of_le lt4 (Nat.le_of_eq hzO5))) bO1_t26
        replace bO1_t27 := ho.box (Nat.ne_of_gt (Nat.lt_of_lt_of_le lt4 (Nat.le_of_eq hzO5))) bO1_t27
        replace bO1_t28 := ho.box (Nat.ne_of_gt (Nat.lt_of_lt_of_le lt4 (Nat.le_of_eq hzO5))) bO1_t28
        have hs37 : w19.heap.size ≤ X21.heap.size := Nat.le_of_eq ho.size.symm
        clear ho hk bO5_t29 bO5_t30 bO5_t31 bO5_t32 bO5_t33 bO5_t34 bO5_t35 bO5_t36
        have bO5_t29 := hv0; clear hv0
        have bO5_t30 := hv1; clear hv1
        have bO5_t31 := hv2; clear hv2
        have bO5_t32 := hv3; clear hv3
        have bO5_t33 := hv4; clear hv4
        have bO5_t34 := hv5; clear hv5
        have bO5_t35 := hv6; clear hv6
        have bO5_t36 := hv7; clear hv7
        refine pl_take (.bool true) rfl (by kernel_rfl) (by kernel_rfl) (by kernel_rfl) (by kernel_rfl) ?_
        refine pl_nil ?_
        refine qw_then ?_
        refine cw_ret ?_
        refine qw_ret [.agg #[.int .i64 (o.p : Int), .int .i64 (o.f : Int), .int .i64 (o.lo : Int), .int .i64 (o.hi : Int), .int .i64 (o.nd : Int), .int .i64 (o.tn : Int), .int .i64 (o.sl : Int), .int .i64 (IntKind.i64.wrap (t - d) : Int)], .bool true] rfl ⟨⟨_, by kernel_rfl, res_ld (ld96 (bO5_t29.1) (bO5_t30.1) (bO5_t31.1) (bO5_t32.1) (bO5_t33.1) (bO5_t34.1) (bO5_t35.1) (bO5_t36.1))⟩, (by kernel_rfl), trivial⟩ ?_
        simp [Orb.atB, hb10, hb14, hb18] at hat
      ·
        refine pl_step rfl (by kernel_rfl) (by kernel_rfl) (by kernel_rfl) (sn_call (f := 56) (args := #[.agg #[.int .i64 (o.p : Int), .int .i64 (o.f : Int), .int .i64 (o.lo : Int), .int .i64 (o.hi : Int), .int .i64 (o.nd : Int), .int .i64 (o.tn : Int), .int .i64 (o.sl : Int)]]) (by kernel_rfl) ((oValid_r (r := false) _ (hb18)).mono ?_))
        rintro e w38 ⟨rfl, hb⟩
        replace hE := hE.trans hb
        replace hX9 := hX9.trans hb
        have hs39 := hb.size
        clear hb
        refine ⟨_, rfl, ?_⟩
        refine pl_take (.bool false) rfl (by kernel_rfl) (by kernel_rfl) (by kernel_rfl) (by kernel_rfl) ?_
        refine pl_take (.bool false) rfl (by kernel_rfl) (by kernel_rfl) (by kernel_rfl) (by kernel_rfl) ?_
        refine pl_nil ?_
        refine qw_then ?_
        refine cw_clean [1, 2, 3, 6, 8] (ws' := [(1, .int .i64 (t : Int)), (2, .int .i64 (d : Int)), (3, .pointer (some ⟨O1, 0, none⟩)), (6, .pointer (some ⟨O5, 0, none⟩)), (8, .bool false)]) (by kernel_rfl) (fun L => ?_)
        refine cw_seq ?_
        refine cw_plain ?_
        refine pl_take (.agg #[.int .i64 (o.p : Int), .int .i64 (o.f : Int), .int .i64 (o.lo : Int), .int .i64 (o.hi : Int), .int .i64 (o.nd : Int), .int .i64 (o.tn : Int), .int .i64 (o.sl : Int)]) rfl (by kernel_rfl) (by kernel_rfl) (by kernel_rfl) (ex_load rfl (by kernel_rfl) (ld24 ((BoxAt.ext hX9 bO1_0).1) ((BoxAt.ext hX9 bO1_1).1) ((BoxAt.ext hX9 bO1_2).1) ((BoxAt.ext hX9 bO1_3).1) ((BoxAt.ext hX9 bO1_4).1) ((BoxAt.ext hX9 bO1_5).1) ((BoxAt.ext hX9 bO1_6).1))) ?_
        refine pl_take (.int .i64 (t : Int)) rfl (by kernel_rfl) (by kernel_rfl) (by kernel_rfl) (by kernel_rfl) ?_
        refine pl_take (.int .i64 (d : Int)) rfl (by kernel_rfl) (by kernel_rfl) (by kernel_rfl) (by kernel_rfl) ?_
        refine pl_take (.int .i64 (IntKind.i64.wrap (t - d) : Int)) rfl (by kernel_rfl) (by kernel_rfl) (by kernel_rfl) (by kernel_rfl) ?_
        refine pl_take (.agg #[.int .i64 (o.p : Int), .int .i64 (o.f : Int), .int .i64 (o.lo : Int), .int .i64 (o.hi : Int), .int .i64 (o.nd : Int), .int .i64 (o.tn : Int), .int .i64 (o.sl : Int), .int .i64 (IntKind.i64.wrap (t - d) : Int)]) rfl (by kernel_rfl) (by kernel_rfl) (by kernel_rfl) (by kernel_rfl) ?_
        refine pl_take (.bool false) rfl (by kernel_rfl) (by kernel_rfl) (by kernel_rfl) (by kernel_rfl) ?_
        have bO1_t41 := (BoxAt.ext hX9 bO1_0)
        have bO1_t42 := (BoxAt.ext hX9 bO1_1)
        have bO1_t43 := (BoxAt.ext hX9 bO1_2)
        have bO1_t44 := (BoxAt.ext hX9 bO1_3)
        have bO1_t45 := (BoxAt.ext hX9 bO1_4)
        have bO1_t46 := (BoxAt.ext hX9 bO1_5)
        have bO1_t47 := (BoxAt.ext hX9 bO1_6)
        have bO5_t48 := (BoxAt.ext hX9 bO5_0)
        have bO5_t49 := (BoxAt.ext hX9 bO5_1)
        have bO5_t50 := (BoxAt.ext hX9 bO5_2)
        have bO5_t51 := (BoxAt.ext hX9 bO5_3)
        have bO5_t52 := (BoxAt.ext hX9 bO5_4)
        have bO5_t53 := (BoxAt.ext hX9 bO5_5)
        have bO5_t54 := (BoxAt.ext hX9 bO5_6)
        have bO5_t55 := (BoxAt.ext hX9 bO5_7)
        refine pl_put rfl (by kernel_rfl) (by kernel_rfl) (sn_setK8 (O := O5) (j := 0) (v0 := .int .i64 (o.p : Int)) (v1 := .int .i64 (o.f : Int)) (v2 := .int .i64 (o.lo : Int)) (v3 := .int .i64 (o.hi : Int)) (v4 := .int .i64 (o.nd : Int)) (v5 := .int .i64 (o.tn : Int)) (v6 := .int .i64 (o.sl : Int)) (v7 := .int .i64 (IntKind.i64.wrap (t - d) : Int)) (ex_store (p := .pointer (some ⟨O5, 0, none⟩)) (v := .agg #[.int .i64 (o.p : Int), .int .i64 (o.f : Int), .int .i64 (o.lo : Int), .int .i64 (o.hi : Int), .int .i64 (o.nd : Int), .int .i64 (o.tn : Int), .int .i64 (o.sl : Int), .int .i64 (IntKind.i64.wrap (t - d) : Int)]) rfl (by kernel_rfl) (by kernel_rfl) (st96 bO5_t48.1 bO5_t48.2 bO5_t49.1 bO5_t49.2 bO5_t50.1 bO5_t50.2 bO5_t51.1 bO5_t51.2 bO5_t52.1 bO5_t52.2 bO5_t53.1 bO5_t53.2 bO5_t54.1 bO5_t54.2 bO5_t55.1 bO5_t55.2)) bO5_t48 bO5_t49 bO5_t50 bO5_t51 bO5_t52 bO5_t53 bO5_t54 bO5_t55 ?_)
        intro X40 ho hv0 hv1 hv2 hv3 hv4 hv5 hv6 hv7 hk
        replace hE := ho.ext hE (Nat.le_trans hs3 (Nat.le_of_eq hzO5))
        replace bO1_t41 := ho.box (Nat.ne_of_gt (Nat.lt_of_lt_of_le lt4 (Nat.le_of_eq hzO5))) bO1_t41
        replace bO1_t42 := ho.box (Nat.ne_of_gt (Nat.lt_of_lt_of_le lt4 (Nat.le_of_eq hzO5))) bO1_t42
        replace bO1_t43 := ho.box (Nat.ne_of_gt (Nat.lt_of_lt_of_le lt4 (Nat.le_of_eq hzO5))) bO1_t43
        replace bO1_t44 := ho.box (Nat.ne_of_gt (Nat.lt_of_lt_of_le lt4 (Nat.le_of_eq hzO5))) bO1_t44
        replace bO1_t45 := ho.box (Nat.ne_of_gt (Nat.lt_of_lt_of_le lt4 (Nat.le_of_eq hzO5))) bO1_t45
        replace bO1_t46 := ho.box (Nat.ne_of_gt (Nat.lt_of_lt_of_le lt4 (Nat.le_of_eq hzO5))) bO1_t46
        replace bO1_t47 := ho.box (Nat.ne_of_gt (Nat.lt_of_lt_of_le lt4 (Nat.le_of_eq hzO5))) bO1_t47
        have hs56 : w38.heap.size ≤ X40.heap.size := Nat.le_of_eq ho.size.symm
        clear ho hk bO5_t48 bO5_t49 bO5_t50 bO5_t51 bO5_t52 bO5_t53 bO5_t54 bO5_t55
        have bO5_t48 := hv0; clear hv0
        have bO5_t49 := hv1; clear hv1
        have bO5_t50 := hv2; clear hv2
        have bO5_t51 := hv3; clear hv3
        have bO5_t52 := hv4; clear hv4
        have bO5_t53 := hv5; clear hv5
        have bO5_t54 := hv6; clear hv6
        have bO5_t55 := hv7; clear hv7
        refine pl_take (.bool false) rfl (by kernel_rfl) (by kernel_rfl) (by kernel_rfl) (by kernel_rfl) ?_
        refine pl_nil ?_
        refine qw_then ?_
        refine cw_ret ?_
        refine qw_ret [.agg #[.int .i64 (o.p : Int), .int .i64 (o.f : Int), .int .i64 (o.lo : Int), .int .i64 (o.hi : Int), .int .i64 (o.nd : Int), .int .i64 (o.tn : Int), .int .i64 (o.sl : Int), .int .i64 (IntKind.i64.wrap (t - d) : Int)], .bool false] rfl ⟨⟨_, by kernel_rfl, res_ld (ld96 (bO5_t48.1) (bO5_t49.1) (bO5_t50.1) (bO5_t51.1) (bO5_t52.1) (bO5_t53.1) (bO5_t54.1) (bO5_t55.1))⟩, (by kernel_rfl), trivial⟩ ?_
        exact ⟨_, rfl, hE⟩
    ·
      refine pl_step rfl (by kernel_rfl) (by kernel_rfl) (by kernel_rfl) (sn_call (f := 87) (args := #[.int .i64 (d : Int), .int .i64 (-10 : Int), .int .i64 10]) (by kernel_rfl) ((orbit_in_r (r := false) d (-10) 10 _ (hb14)).mono ?_))
      rintro e w57 ⟨rfl, hb⟩
      replace hE := hE.trans hb
      replace hX9 := hX9.trans hb
      have hs58 := hb.size
      clear hb
      refine ⟨_, rfl, ?_⟩
      refine pl_take (.bool false) rfl (by kernel_rfl) (by kernel_rfl) (by kernel_rfl) (by kernel_rfl) ?_
      refine pl_take (.bool false) rfl (by kernel_rfl) (by kernel_rfl) (by kernel_rfl) (by kernel_rfl) ?_
      refine pl_skip rfl (by kernel_rfl) (by kernel_rfl) (by kernel_rfl) ?_
      refine pl_skip rfl (by kernel_rfl) (by kernel_rfl) (by kernel_rfl) ?_
      refine pl_take (.bool false) rfl (by kernel_rfl) (by kernel_rfl) (by kernel_rfl) (by kernel_rfl) ?_
      refine pl_take (.bool false) rfl (by kernel_rfl) (by kernel_rfl) (by kernel_rfl) (by kernel_rfl) ?_
      refine pl_nil ?_
      refine qw_then ?_
      refine cw_clean [1, 2, 3, 6, 8] (ws' := [(1, .int .i64 (t : Int)), (2, .int .i64 (d : Int)), (3, .pointer (some ⟨O1, 0, none⟩)), (6, .pointer (some ⟨O5, 0, none⟩)), (8, .bool false)]) (by kernel_rfl) (fun L => ?_)
      refine cw_seq ?_
      refine cw_plain ?_
      refine pl_take (.agg #[.int .i64 (o.p : Int), .int .i64 (o.f : Int), .int .i64 (o.lo : Int), .int .i64 (o.hi : Int), .int .i64 (o.nd : Int), .int .i64 (o.tn : Int), .int .i64 (o.sl : Int)]) rfl (by kernel_rfl) (by kernel_rfl) (by kernel_rfl) (ex_load rfl (by kernel_rfl) (ld24 ((BoxAt.ext hX9 bO1_0).1) ((BoxAt.ext hX9 bO1_1).1) ((BoxAt.ext hX9 bO1_2).1) ((BoxAt.ext hX9 bO1_3).1) ((BoxAt.ext hX9 bO1_4).1) ((BoxAt.ext hX9 bO1_5).1) ((BoxAt.ext hX9 bO1_6).1))) ?_
      refine pl_take (.int .i64 (t : Int)) rfl (by kernel_rfl) (by kernel_rfl) (by kernel_rfl) (by kernel_rfl) ?_
      refine pl_take (.int .i64 (d : Int)) rfl (by kernel_rfl) (by kernel_rfl) (by kernel_rfl) (by kernel_rfl) ?_
      refine pl_take (.int .i64 (IntKind.i64.wrap (t - d) : Int)) rfl (by kernel_rfl) (by kernel_rfl) (by kernel_rfl) (by kernel_rfl) ?_
      refine pl_take (.agg #[.int .i64 (o.p : Int), .int .i64 (o.f : Int), .int .i64 (o.lo : Int), .int .i64 (o.hi : Int), .int .i64 (o.nd : Int), .int .i64 (o.tn : Int), .int .i64 (o.sl : Int), .int .i64 (IntKind.i64.wrap (t - d) : Int)]) rfl (by kernel_rfl) (by kernel_rfl) (by kernel_rfl) (by kernel_rfl) ?_
      refine pl_take (.bool false) rfl (by kernel_rfl) (by kernel_rfl) (by kernel_rfl) (by kernel_rfl) ?_
      have bO1_t60 := (BoxAt.ext hX9 bO1_0)
      have bO1_t61 := (BoxAt.ext hX9 bO1_1)
      have bO1_t62 := (BoxAt.ext hX9 bO1_2)
      have bO1_t63 := (BoxAt.ext hX9 bO1_3)
      have bO1_t64 := (BoxAt.ext hX9 bO1_4)
      have bO1_t65 := (BoxAt.ext hX9 bO1_5)
      have bO1_t66 := (BoxAt.ext hX9 bO1_6)
      have bO5_t67 := (BoxAt.ext hX9 bO5_0)
      have bO5_t68 := (BoxAt.ext hX9 bO5_1)
      have bO5_t69 := (BoxAt.ext hX9 bO5_2)
      have bO5_t70 := (BoxAt.ext hX9 bO5_3)
      have bO5_t71 := (BoxAt.ext hX9 bO5_4)
      have bO5_t72 := (BoxAt.ext hX9 bO5_5)
      have bO5_t73 := (BoxAt.ext hX9 bO5_6)
      have bO5_t74 := (BoxAt.ext hX9 bO5_7)
      refine pl_put rfl (by kernel_rfl) (by kernel_rfl) (sn_setK8 (O := O5) (j := 0) (v0 := .int .i64 (o.p : Int)) (v1 := .int .i64 (o.f : Int)) (v2 := .int .i64 (o.lo : Int)) (v3 := .int .i64 (o.hi : Int)) (v4 := .int .i64 (o.nd : Int)) (v5 := .int .i64 (o.tn : Int)) (v6 := .int .i64 (o.sl : Int)) (v7 := .int .i64 (IntKind.i64.wrap (t - d) : Int)) (ex_store (p := .pointer (some ⟨O5, 0, none⟩)) (v := .agg #[.int .i64 (o.p : Int), .int .i64 (o.f : Int), .int .i64 (o.lo : Int), .int .i64 (o.hi : Int), .int .i64 (o.nd : Int), .int .i64 (o.tn : Int), .int .i64 (o.sl : Int), .int .i64 (IntKind.i64.wrap (t - d) : Int)]) rfl (by kernel_rfl) (by kernel_rfl) (st96 bO5_t67.1 bO5_t67.2 bO5_t68.1 bO5_t68.2 bO5_t69.1 bO5_t69.2 bO5_t70.1 bO5_t70.2 bO5_t71.1 bO5_t71.2 bO5_t72.1 bO5_t72.2 bO5_t73.1 bO5_t73.2 bO5_t74.1 bO5_t74.2)) bO5_t67 bO5_t68 bO5_t69 bO5_t70 bO5_t71 bO5_t72 bO5_t73 bO5_t74 ?_)
      intro X59 ho hv0 hv1 hv2 hv3 hv4 hv5 hv6 hv7 hk
      replace hE := ho.ext hE (Nat.le_trans hs3 (Nat.le_of_eq hzO5))
      replace bO1_t60 := ho.box (Nat.ne_of_gt (Nat.lt_of_lt_of_le lt4 (Nat.le_of_eq hzO5))) bO1_t60
      replace bO1_t61 := ho.box (Nat.ne_of_gt (Nat.lt_of_lt_of_le lt4 (Nat.le_of_eq hzO5))) bO1_t61
      replace bO1_t62 := ho.box (Nat.ne_of_gt (Nat.lt_of_lt_of_le lt4 (Nat.le_of_eq hzO5))) bO1_t62
      replace bO1_t63 := ho.box (Nat.ne_of_gt (Nat.lt_of_lt_of_le lt4 (Nat.le_of_eq hzO5))) bO1_t63
      replace bO1_t64 := ho.box (Nat.ne_of_gt (Nat.lt_of_lt_of_le lt4 (Nat.le_of_eq hzO5))) bO1_t64
      replace bO1_t65 := ho.box (Nat.ne_of_gt (Nat.lt_of_lt_of_le lt4 (Nat.le_of_eq hzO5))) bO1_t65
      replace bO1_t66 := ho.box (Nat.ne_of_gt (Nat.lt_of_lt_of_le lt4 (Nat.le_of_eq hzO5))) bO1_t66
      have hs75 : w57.heap.size ≤ X59.heap.size := Nat.le_of_eq ho.size.symm
      clear ho hk bO5_t67 bO5_t68 bO5_t69 bO5_t70 bO5_t71 bO5_t72 bO5_t73 bO5_t74
      have bO5_t67 := hv0; clear hv0
      have bO5_t68 := hv1; clear hv1
      have bO5_t69 := hv2; clear hv2
      have bO5_t70 := hv3; clear hv3
      have bO5_t71 := hv4; clear hv4
      have bO5_t72 := hv5; clear hv5
      have bO5_t73 := hv6; clear hv6
      have bO5_t74 := hv7; clear hv7
      refine pl_take (.bool false) rfl (by kernel_rfl) (by kernel_rfl) (by kernel_rfl) (by kernel_rfl) ?_
      refine pl_nil ?_
      refine qw_then ?_
      refine cw_ret ?_
      refine qw_ret [.agg #[.int .i64 (o.p : Int), .int .i64 (o.f : Int), .int .i64 (o.lo : Int), .int .i64 (o.hi : Int), .int .i64 (o.nd : Int), .int .i64 (o.tn : Int), .int .i64 (o.sl : Int), .int .i64 (IntKind.i64.wrap (t - d) : Int)], .bool false] rfl ⟨⟨_, by kernel_rfl, res_ld (ld96 (bO5_t67.1) (bO5_t68.1) (bO5_t69.1) (bO5_t70.1) (bO5_t71.1) (bO5_t72.1) (bO5_t73.1) (bO5_t74.1))⟩, (by kernel_rfl), trivial⟩ ?_
      exact ⟨_, rfl, hE⟩
  ·
    refine pl_step rfl (by kernel_rfl) (by kernel_rfl) (by kernel_rfl) (sn_call (f := 87) (args := #[.int .i64 (t : Int), .int .i64 0, .int .i64 1000000]) (by kernel_rfl) ((orbit_in_r (r := false) t 0 1000000 _ (hb10)).mono ?_))
    rintro e w76 ⟨rfl, hb⟩
    replace hE := hE.trans hb
    replace hX9 := hX9.trans hb
    have hs77 := hb.size
    clear hb
    refine ⟨_, rfl, ?_⟩
    refine pl_take (.bool false) rfl (by kernel_rfl) (by kernel_rfl) (by kernel_rfl) (by kernel_rfl) ?_
    refine pl_skip rfl (by kernel_rfl) (by kernel_rfl) (by kernel_rfl) ?_
    refine pl_skip rfl (by kernel_rfl) (by kernel_rfl) (by kernel_rfl) ?_
    refine pl_take (.bool false) rfl (by kernel_rfl) (by kernel_rfl) (by kernel_rfl) (by kernel_rfl) ?_
    refine pl_take (.bool false) rfl (by kernel_rfl) (by kernel_rfl) (by kernel_rfl) (by kernel_rfl) ?_
    refine pl_skip rfl (by kernel_rfl) (by kernel_rfl) (by kernel_rfl) ?_
    refine pl_skip rfl (by kernel_rfl) (by kernel_rfl) (by kernel_rfl) ?_
    refine pl_take (.bool false) rfl (by kernel_rfl) (by kernel_rfl) (by kernel_rfl) (by kernel_rfl) ?_
    refine pl_take (.bool false) rfl (by kernel_rfl) (by kernel_rfl) (by kernel_rfl) (by kernel_rfl) ?_
    refine pl_nil ?_
    refine qw_then ?_
    refine cw_clean [1, 2, 3, 6, 8] (ws' := [(1, .int .i64 (t : Int)), (2, .int .i64 (d : Int)), (3, .pointer (some ⟨O1, 0, none⟩)), (6, .pointer (some ⟨O5, 0, none⟩)), (8, .bool false)]) (by kernel_rfl) (fun L => ?_)
    refine cw_seq ?_
    refine cw_plain ?_
    refine pl_take (.agg #[.int .i64 (o.p : Int), .int .i64 (o.f : Int), .int .i64 (o.lo : Int), .int .i64 (o.hi : Int), .int .i64 (o.nd : Int), .int .i64 (o.tn : Int), .int .i64 (o.sl : Int)]) rfl (by kernel_rfl) (by kernel_rfl) (by kernel_rfl) (ex_load rfl (by kernel_rfl) (ld24 ((BoxAt.ext hX9 bO1_0).1) ((BoxAt.ext hX9 bO1_1).1) ((BoxAt.ext hX9 bO1_2).1) ((BoxAt.ext hX9 bO1_3).1) ((BoxAt.ext hX9 bO1_4).1) ((BoxAt.ext hX9 bO1_5).1) ((BoxAt.ext hX9 bO1_6).1))) ?_
    refine pl_take (.int .i64 (t : Int)) rfl (by kernel_rfl) (by kernel_rfl) (by kernel_rfl) (by kernel_rfl) ?_
    refine pl_take (.int .i64 (d : Int)) rfl (by kernel_rfl) (by kernel_rfl) (by kernel_rfl) (by kernel_rfl) ?_
    refine pl_take (.int .i64 (IntKind.i64.wrap (t - d) : Int)) rfl (by kernel_rfl) (by kernel_rfl) (by kernel_rfl) (by kernel_rfl) ?_
    refine pl_take (.agg #[.int .i64 (o.p : Int), .int .i64 (o.f : Int), .int .i64 (o.lo : Int), .int .i64 (o.hi : Int), .int .i64 (o.nd : Int), .int .i64 (o.tn : Int), .int .i64 (o.sl : Int), .int .i64 (IntKind.i64.wrap (t - d) : Int)]) rfl (by kernel_rfl) (by kernel_rfl) (by kernel_rfl) (by kernel_rfl) ?_
    refine pl_take (.bool false) rfl (by kernel_rfl) (by kernel_rfl) (by kernel_rfl) (by kernel_rfl) ?_
    have bO1_t79 := (BoxAt.ext hX9 bO1_0)
    have bO1_t80 := (BoxAt.ext hX9 bO1_1)
    have bO1_t81 := (BoxAt.ext hX9 bO1_2)
    have bO1_t82 := (BoxAt.ext hX9 bO1_3)
    have bO1_t83 := (BoxAt.ext hX9 bO1_4)
    have bO1_t84 := (BoxAt.ext hX9 bO1_5)
    have bO1_t85 := (BoxAt.ext hX9 bO1_6)
    have bO5_t86 := (BoxAt.ext hX9 bO5_0)
    have bO5_t87 := (BoxAt.ext hX9 bO5_1)
    have bO5_t88 := (BoxAt.ext hX9 bO5_2)
    have bO5_t89 := (BoxAt.ext hX9 bO5_3)
    have bO5_t90 := (BoxAt.ext hX9 bO5_4)
    have bO5_t91 := (BoxAt.ext hX9 bO5_5)
    have bO5_t92 := (BoxAt.ext hX9 bO5_6)
    have bO5_t93 := (BoxAt.ext hX9 bO5_7)
    refine pl_put rfl (by kernel_rfl) (by kernel_rfl) (sn_setK8 (O := O5) (j := 0) (v0 := .int .i64 (o.p : Int)) (v1 := .int .i64 (o.f : Int)) (v2 := .int .i64 (o.lo : Int)) (v3 := .int .i64 (o.hi : Int)) (v4 := .int .i64 (o.nd : Int)) (v5 := .int .i64 (o.tn : Int)) (v6 := .int .i64 (o.sl : Int)) (v7 := .int .i64 (IntKind.i64.wrap (t - d) : Int)) (ex_store (p := .pointer (some ⟨O5, 0, none⟩)) (v := .agg #[.int .i64 (o.p : Int), .int .i64 (o.f : Int), .int .i64 (o.lo : Int), .int .i64 (o.hi : Int), .int .i64 (o.nd : Int), .int .i64 (o.tn : Int), .int .i64 (o.sl : Int), .int .i64 (IntKind.i64.wrap (t - d) : Int)]) rfl (by kernel_rfl) (by kernel_rfl) (st96 bO5_t86.1 bO5_t86.2 bO5_t87.1 bO5_t87.2 bO5_t88.1 bO5_t88.2 bO5_t89.1 bO5_t89.2 bO5_t90.1 bO5_t90.2 bO5_t91.1 bO5_t91.2 bO5_t92.1 bO5_t92.2 bO5_t93.1 bO5_t93.2)) bO5_t86 bO5_t87 bO5_t88 bO5_t89 bO5_t90 bO5_t91 bO5_t92 bO5_t93 ?_)
    intro X78 ho hv0 hv1 hv2 hv3 hv4 hv5 hv6 hv7 hk
    replace hE := ho.ext hE (Nat.le_trans hs3 (Nat.le_of_eq hzO5))
    replace bO1_t79 := ho.box (Nat.ne_of_gt (Nat.lt_of_lt_of_le lt4 (Nat.le_of_eq hzO5))) bO1_t79
    replace bO1_t80 := ho.box (Nat.ne_of_gt (Nat.lt_of_lt_of_le lt4 (Nat.le_of_eq hzO5))) bO1_t80
    replace bO1_t81 := ho.box (Nat.ne_of_gt (Nat.lt_of_lt_of_le lt4 (Nat.le_of_eq hzO5))) bO1_t81
    replace bO1_t82 := ho.box (Nat.ne_of_gt (Nat.lt_of_lt_of_le lt4 (Nat.le_of_eq hzO5))) bO1_t82
    replace bO1_t83 := ho.box (Nat.ne_of_gt (Nat.lt_of_lt_of_le lt4 (Nat.le_of_eq hzO5))) bO1_t83
    replace bO1_t84 := ho.box (Nat.ne_of_gt (Nat.lt_of_lt_of_le lt4 (Nat.le_of_eq hzO5))) bO1_t84
    replace bO1_t85 := ho.box (Nat.ne_of_gt (Nat.lt_of_lt_of_le lt4 (Nat.le_of_eq hzO5))) bO1_t85
    have hs94 : w76.heap.size ≤ X78.heap.size := Nat.le_of_eq ho.size.symm
    clear ho hk bO5_t86 bO5_t87 bO5_t88 bO5_t89 bO5_t90 bO5_t91 bO5_t92 bO5_t93
    have bO5_t86 := hv0; clear hv0
    have bO5_t87 := hv1; clear hv1
    have bO5_t88 := hv2; clear hv2
    have bO5_t89 := hv3; clear hv3
    have bO5_t90 := hv4; clear hv4
    have bO5_t91 := hv5; clear hv5
    have bO5_t92 := hv6; clear hv6
    have bO5_t93 := hv7; clear hv7
    refine pl_take (.bool false) rfl (by kernel_rfl) (by kernel_rfl) (by kernel_rfl) (by kernel_rfl) ?_
    refine pl_nil ?_
    refine qw_then ?_
    refine cw_ret ?_
    refine qw_ret [.agg #[.int .i64 (o.p : Int), .int .i64 (o.f : Int), .int .i64 (o.lo : Int), .int .i64 (o.hi : Int), .int .i64 (o.nd : Int), .int .i64 (o.tn : Int), .int .i64 (o.sl : Int), .int .i64 (IntKind.i64.wrap (t - d) : Int)], .bool false] rfl ⟨⟨_, by kernel_rfl, res_ld (ld96 (bO5_t86.1) (bO5_t87.1) (bO5_t88.1) (bO5_t89.1) (bO5_t90.1) (bO5_t91.1) (bO5_t92.1) (bO5_t93.1))⟩, (by kernel_rfl), trivial⟩ ?_
    exact ⟨_, rfl, hE⟩
set_option maxRecDepth 1000000 in
set_option maxHeartbeats 4000000 in
theorem At_y (o : Orb) (t d : Int) (w : World) (hat : Orb.atB o t d = true) : Calls Try.prog 28 #[.agg #[.int .i64 o.p, .int .i64 o.f, .int .i64 o.lo, .int .i64 o.hi, .int .i64 o.nd, .int .i64 o.tn, .int .i64 o.sl], .int .i64 t, .int .i64 d] w fun e w' => e = .returned (.tuple #[.agg #[.int .i64 ((Orb.cx o (t - d) : Nat) : Int), .int .i64 ((Orb.cy o (t - d) : Nat) : Int)], .int .i64 0]) ∧ Ext w w' := by
  have ha9 : (Globe.inB t 0 1000000 = true ∧ Globe.inB d (-10) 10 = true) ∧ Orb.ok o = true := by simpa [Orb.atB] using hat
  have h1 := Globe.inB_t.1 ha9.1.1
  have h2 := Globe.inB_t.1 ha9.1.2
  have hok := ha9.2
  refine calls_cw 22 [(2, .int .i64 (d : Int)), (1, .int .i64 (t : Int)), (0, .agg #[.int .i64 (o.p : Int), .int .i64 (o.f : Int), .int .i64 (o.lo : Int), .int .i64 (o.hi : Int), .int .i64 (o.nd : Int), .int .i64 (o.tn : Int), .int .i64 (o.sl : Int)])] Try.func28 rfl Try.ntmps28 (by kernel_rfl) (by kernel_rfl) (fun L => ?_)
  have hE : Ext w w := Ext.refl w
  refine cw_seq ?_
  refine cw_plain ?_
  refine pl_step rfl (by kernel_rfl) (by kernel_rfl) (by kernel_rfl) (sn_new (us := #[.int .i64 (o.p : Int), .int .i64 (o.f : Int), .int .i64 (o.lo : Int), .int .i64 (o.hi : Int), .int .i64 (o.nd : Int), .int .i64 (o.tn : Int), .int .i64 (o.sl : Int)]) (t := 24) (by kernel_rfl) ?_)
  intro O1 X2 hO hOs hb hbx
  have hzO1 := hO; have hyO1 := hOs; clear hO hOs
  have bO1_0 : BoxAt X2 O1 0 (.int .i64 (o.p : Int)) := hbx 0 _ rfl
  have bO1_1 : BoxAt X2 O1 1 (.int .i64 (o.f : Int)) := hbx 1 _ rfl
  have bO1_2 : BoxAt X2 O1 2 (.int .i64 (o.lo : Int)) := hbx 2 _ rfl
  have bO1_3 : BoxAt X2 O1 3 (.int .i64 (o.hi : Int)) := hbx 3 _ rfl
  have bO1_4 : BoxAt X2 O1 4 (.int .i64 (o.nd : Int)) := hbx 4 _ rfl
  have bO1_5 : BoxAt X2 O1 5 (.int .i64 (o.tn : Int)) := hbx 5 _ rfl
  have bO1_6 : BoxAt X2 O1 6 (.int .i64 (o.sl : Int)) := hbx 6 _ rfl
  clear hbx
  replace hE := hE.trans hb
  have hs3 := hb.size
  clear hb
  have lt4 := bO1_0.lt
  refine pl_step rfl (by kernel_rfl) (by kernel_rfl) (by kernel_rfl) (sn_new (us := #[.int .i64 0, .int .i64 0]) (t := 57) (by kernel_rfl) ?_)
  intro O5 X6 hO hOs hb hbx
  have hzO5 := hO; have hyO5 := hOs; clear hO hOs
  have bO5_0 : BoxAt X6 O5 0 (.int .i64 0) := hbx 0 _ rfl
  have bO5_1 : BoxAt X6 O5 1 (.int .i64 0) := hbx 1 _ rfl
  clear hbx
  replace hE := hE.trans hb
  replace bO1_0 := BoxAt.ext hb bO1_0
  replace bO1_1 := BoxAt.ext hb bO1_1
  replace bO1_2 := BoxAt.ext hb bO1_2
  replace bO1_3 := BoxAt.ext hb bO1_3
  replace bO1_4 := BoxAt.ext hb bO1_4
  replace bO1_5 := BoxAt.ext hb bO1_5
  replace bO1_6 := BoxAt.ext hb bO1_6
  have hs7 := hb.size
  clear hb
  have lt8 := bO5_0.lt
  refine pl_take (.int .i64 0) rfl (by kernel_rfl) (by kernel_rfl) (by kernel_rfl) (by kernel_rfl) ?_
  refine pl_nil ?_
  refine qw_then ?_
  refine cw_seq ?_
  have hX9 : Ext X6 X6 := Ext.refl _
  refine cw_plain ?_
  refine pl_take (.agg #[.int .i64 (o.p : Int), .int .i64 (o.f : Int), .int .i64 (o.lo : Int), .int .i64 (o.hi : Int), .int .i64 (o.nd : Int), .int .i64 (o.tn : Int), .int .i64 (o.sl : Int)]) rfl (by kernel_rfl) (by kernel_rfl) (by kernel_rfl) (ex_load rfl (by kernel_rfl) (ld24 (bO1_0.1) (bO1_1.1) (bO1_2.1) (bO1_3.1) (bO1_4.1) (bO1_5.1) (bO1_6.1))) ?_
  refine pl_take (.int .i64 (t : Int)) rfl (by kernel_rfl) (by kernel_rfl) (by kernel_rfl) (by kernel_rfl) ?_
  refine pl_take (.int .i64 (d : Int)) rfl (by kernel_rfl) (by kernel_rfl) (by kernel_rfl) (by kernel_rfl) ?_
  refine pl_step rfl (by kernel_rfl) (by kernel_rfl) (by kernel_rfl) (sn_call (f := 63) (args := #[.agg #[.int .i64 (o.p : Int), .int .i64 (o.f : Int), .int .i64 (o.lo : Int), .int .i64 (o.hi : Int), .int .i64 (o.nd : Int), .int .i64 (o.tn : Int), .int .i64 (o.sl : Int)], .int .i64 (t : Int), .int .i64 (d : Int)]) (by kernel_rfl) ((at_y o t d _ (hat)).mono ?_))
  rintro e w10 ⟨rfl, hb⟩
  replace hE := hE.trans hb
  replace hX9 := hX9.trans hb
  have hs11 := hb.size
  clear hb
  refine ⟨_, rfl, ?_⟩
  refine pl_take (.tuple #[.agg #[.int .i64 (o.p : Int), .int .i64 (o.f : Int), .int .i64 (o.lo : Int), .int .i64 (o.hi : Int), .int .i64 (o.nd : Int), .int .i64 (o.tn : Int), .int .i64 (o.sl : Int), .int .i64 (t - d : Int)], .bool true]) rfl (by kernel_rfl) (by kernel_rfl) (by kernel_rfl) (by kernel_rfl) ?_
  refine pl_take (.agg #[.int .i64 (o.p : Int), .int .i64 (o.f : Int), .int .i64 (o.lo : Int), .int .i64 (o.hi : Int), .int .i64 (o.nd : Int), .int .i64 (o.tn : Int), .int .i64 (o.sl : Int), .int .i64 (t - d : Int)]) rfl (by kernel_rfl) (by kernel_rfl) (by kernel_rfl) (by kernel_rfl) ?_
  refine pl_take (.bool true) rfl (by kernel_rfl) (by kernel_rfl) (by kernel_rfl) (by kernel_rfl) ?_
  refine pl_step rfl (by kernel_rfl) (by kernel_rfl) (by kernel_rfl) (sn_new (us := #[.int .i64 0, .int .i64 0, .int .i64 0, .int .i64 0, .int .i64 0, .int .i64 0, .int .i64 0, .int .i64 0]) (t := 96) (by kernel_rfl) ?_)
  intro O12 X13 hO hOs hb hbx
  have hzO12 := hO; have hyO12 := hOs; clear hO hOs
  have bO12_0 : BoxAt X13 O12 0 (.int .i64 0) := hbx 0 _ rfl
  have bO12_1 : BoxAt X13 O12 1 (.int .i64 0) := hbx 1 _ rfl
  have bO12_2 : BoxAt X13 O12 2 (.int .i64 0) := hbx 2 _ rfl
  have bO12_3 : BoxAt X13 O12 3 (.int .i64 0) := hbx 3 _ rfl
  have bO12_4 : BoxAt X13 O12 4 (.int .i64 0) := hbx 4 _ rfl
  have bO12_5 : BoxAt X13 O12 5 (.int .i64 0) := hbx 5 _ rfl
  have bO12_6 : BoxAt X13 O12 6 (.int .i64 0) := hbx 6 _ rfl
  have bO12_7 : BoxAt X13 O12 7 (.int .i64 0) := hbx 7 _ rfl
  clear hbx
  replace hE := hE.trans hb
  replace hX9 := hX9.trans hb
  have hs14 := hb.size
  clear hb
  have lt15 := bO12_0.lt
  refine pl_put rfl (by kernel_rfl) (by kernel_rfl) (sn_setK8 (O := O12) (j := 0) (v0 := .int .i64 (o.p : Int)) (v1 := .int .i64 (o.f : Int)) (v2 := .int .i64 (o.lo : Int)) (v3 := .int .i64 (o.hi : Int)) (v4 := .int .i64 (o.nd : Int)) (v5 := .int .i64 (o.tn : Int)) (v6 := .int .i64 (o.sl : Int)) (v7 := .int .i64 (t - d : Int)) (ex_store (p := .pointer (some ⟨O12, 0, none⟩)) (v := .agg #[.int .i64 (o.p : Int), .int .i64 (o.f : Int), .int .i64 (o.lo : Int), .int .i64 (o.hi : Int), .int .i64 (o.nd : Int), .int .i64 (o.tn : Int), .int .i64 (o.sl : Int), .int .i64 (t - d : Int)]) rfl (by kernel_rfl) (by kernel_rfl) (st96 bO12_0.1 bO12_0.2 bO12_1.1 bO12_1.2 bO12_2.1 bO12_2.2 bO12_3.1 bO12_3.2 bO12_4.1 bO12_4.2 bO12_5.1 bO12_5.2 bO12_6.1 bO12_6.2 bO12_7.1 bO12_7.2)) bO12_0 bO12_1 bO12_2 bO12_3 bO12_4 bO12_5 bO12_6 bO12_7 ?_)
  intro X16 ho hv0 hv1 hv2 hv3 hv4 hv5 hv6 hv7 hk
  replace hE := ho.ext hE (Nat.le_trans (Nat.le_trans hs3 (Nat.le_trans hs7 hs11)) (Nat.le_of_eq hzO12))
  replace hX9 := ho.ext hX9 (Nat.le_trans hs11 (Nat.le_of_eq hzO12))
  have hs17 : X13.heap.size ≤ X16.heap.size := Nat.le_of_eq ho.size.symm
  clear ho hk bO12_0 bO12_1 bO12_2 bO12_3 bO12_4 bO12_5 bO12_6 bO12_7
  have bO12_0 := hv0; clear hv0
  have bO12_1 := hv1; clear hv1
  have bO12_2 := hv2; clear hv2
  have bO12_3 := hv3; clear hv3
  have bO12_4 := hv4; clear hv4
  have bO12_5 := hv5; clear hv5
  have bO12_6 := hv6; clear hv6
  have bO12_7 := hv7; clear hv7
  refine pl_take (.bool true) rfl (by kernel_rfl) (by kernel_rfl) (by kernel_rfl) (by kernel_rfl) ?_
  refine pl_nil ?_
  refine qw_then ?_
  refine cw_clean [6, 8, 9] (ws' := [(6, .pointer (some ⟨O5, 0, none⟩)), (8, .pointer (some ⟨O12, 0, none⟩)), (9, .bool true)]) (by kernel_rfl) (fun L => ?_)
  refine cw_seq ?_
  refine cw_seq ?_
  have hX18 : Ext X16 X16 := Ext.refl _
  refine cw_plain ?_
  refine pl_take (.bool true) rfl (by kernel_rfl) (by kernel_rfl) (by kernel_rfl) (by kernel_rfl) ?_
  refine pl_take (.bool false) rfl (by kernel_rfl) (by kernel_rfl) (by kernel_rfl) (by kernel_rfl) ?_
  refine pl_nil ?_
  refine qw_then ?_
  refine cw_f (by kernel_rfl) ?_
  refine cw_skip ?_
  refine qw_then ?_
  refine cw_seq ?_
  refine cw_plain ?_
  refine pl_take (.agg #[.int .i64 (o.p : Int), .int .i64 (o.f : Int), .int .i64 (o.lo : Int), .int .i64 (o.hi : Int), .int .i64 (o.nd : Int), .int .i64 (o.tn : Int), .int .i64 (o.sl : Int), .int .i64 (t - d : Int)]) rfl (by kernel_rfl) (by kernel_rfl) (by kernel_rfl) (ex_load rfl (by kernel_rfl) (ld96 (bO12_0.1) (bO12_1.1) (bO12_2.1) (bO12_3.1) (bO12_4.1) (bO12_5.1) (bO12_6.1) (bO12_7.1))) ?_
  refine pl_step rfl (by kernel_rfl) (by kernel_rfl) (by kernel_rfl) (sn_call (f := 64) (args := #[.agg #[.int .i64 (o.p : Int), .int .i64 (o.f : Int), .int .i64 (o.lo : Int), .int .i64 (o.hi : Int), .int .i64 (o.nd : Int), .int .i64 (o.tn : Int), .int .i64 (o.sl : Int), .int .i64 (t - d : Int)]]) (by kernel_rfl) ((cell_c o (t - d) _ hok (by omega) (by omega)).mono ?_))
  rintro e w19 ⟨rfl, hb⟩
  replace hE := hE.trans hb
  replace hX18 := hX18.trans hb
  have hs20 := hb.size
  clear hb
  refine ⟨_, rfl, ?_⟩
  have bO1_t22 := (BoxAt.ext (hX9.trans hX18) bO1_0)
  have bO1_t23 := (BoxAt.ext (hX9.trans hX18) bO1_1)
  have bO1_t24 := (BoxAt.ext (hX9.trans hX18) bO1_2)
  have bO1_t25 := (BoxAt.ext (hX9.trans hX18) bO1_3)
  have bO1_t26 := (BoxAt.ext (hX9.trans hX18) bO1_4)
  have bO1_t27 := (BoxAt.ext (hX9.trans hX18) bO1_5)
  have bO1_t28 := (BoxAt.ext (hX9.trans hX18) bO1_6)
  have bO5_t29 := (BoxAt.ext (hX9.trans hX18) bO5_0)
  have bO5_t30 := (BoxAt.ext (hX9.trans hX18) bO5_1)
  have bO12_t31 := (BoxAt.ext hX18 bO12_0)
  have bO12_t32 := (BoxAt.ext hX18 bO12_1)
  have bO12_t33 := (BoxAt.ext hX18 bO12_2)
  have bO12_t34 := (BoxAt.ext hX18 bO12_3)
  have bO12_t35 := (BoxAt.ext hX18 bO12_4)
  have bO12_t36 := (BoxAt.ext hX18 bO12_5)
  have bO12_t37 := (BoxAt.ext hX18 bO12_6)
  have bO12_t38 := (BoxAt.ext hX18 bO12_7)
  refine pl_put rfl (by kernel_rfl) (by kernel_rfl) (sn_set2 (O := O5) (j := 0) (v := .int .i64 (((Orb.cx o (t - d) : Nat) : Int) : Int)) (v' := .int .i64 (((Orb.cy o (t - d) : Nat) : Int) : Int)) (ex_store (p := .pointer (some ⟨O5, 0, none⟩)) (v := .agg #[.int .i64 (((Orb.cx o (t - d) : Nat) : Int) : Int), .int .i64 (((Orb.cy o (t - d) : Nat) : Int) : Int)]) rfl (by kernel_rfl) (by kernel_rfl) (st57 bO5_t29.1 bO5_t29.2 bO5_t30.1 bO5_t30.2)) bO5_t29 bO5_t30 ?_)
  intro X21 ho hv0 hv1 hk
  replace hE := ho.ext hE (Nat.le_trans hs3 (Nat.le_of_eq hzO5))
  replace bO1_t22 := ho.box (Nat.ne_of_gt (Nat.lt_of_lt_of_le lt4 (Nat.le_of_eq hzO5))) bO1_t22
  replace bO1_t23 := ho.box (Nat.ne_of_gt (Nat.lt_of_lt_of_le lt4 (Nat.le_of_eq hzO5))) bO1_t23
  replace bO1_t24 := ho.box (Nat.ne_of_gt (Nat.lt_of_lt_of_le lt4 (Nat.le_of_eq hzO5))) bO1_t24
  replace bO1_t25 := ho.box (Nat.ne_of_gt (Nat.lt_of_lt_of_le lt4 (Nat.le_of_eq hzO5))) bO1_t25
  replace bO1_t26 := ho.box (Nat.ne_of_gt (Nat.lt_of_lt_of_le lt4 (Nat.le_of_eq hzO5))) bO1_t26
  replace bO1_t27 := ho.box (Nat.ne_of_gt (Nat.lt_of_lt_of_le lt4 (Nat.le_of_eq hzO5))) bO1_t27
  replace bO1_t28 := ho.box (Nat.ne_of_gt (Nat.lt_of_lt_of_le lt4 (Nat.le_of_eq hzO5))) bO1_t28
  replace bO12_t31 := ho.box (Nat.ne_of_lt (Nat.lt_of_lt_of_le lt8 (Nat.le_trans hs11 (Nat.le_of_eq hzO12)))) bO12_t31
  replace bO12_t32 := ho.box (Nat.ne_of_lt (Nat.lt_of_lt_of_le lt8 (Nat.le_trans hs11 (Nat.le_of_eq hzO12)))) bO12_t32
  replace bO12_t33 := ho.box (Nat.ne_of_lt (Nat.lt_of_lt_of_le lt8 (Nat.le_trans hs11 (Nat.le_of_eq hzO12)))) bO12_t33
  replace bO12_t34 := ho.box (Nat.ne_of_lt (Nat.lt_of_lt_of_le lt8 (Nat.le_trans hs11 (Nat.le_of_eq hzO12)))) bO12_t34
  replace bO12_t35 := ho.box (Nat.ne_of_lt (Nat.lt_of_lt_of_le lt8 (Nat.le_trans hs11 (Nat.le_of_eq hzO12)))) bO12_t35
  replace bO12_t36 := ho.box (Nat.ne_of_lt (Nat.lt_of_lt_of_le lt8 (Nat.le_trans hs11 (Nat.le_of_eq hzO12)))) bO12_t36
  replace bO12_t37 := ho.box (Nat.ne_of_lt (Nat.lt_of_lt_of_le lt8 (Nat.le_trans hs11 (Nat.le_of_eq hzO12)))) bO12_t37
  replace bO12_t38 := ho.box (Nat.ne_of_lt (Nat.lt_of_lt_of_le lt8 (Nat.le_trans hs11 (Nat.le_of_eq hzO12)))) bO12_t38
  have hs39 : w19.heap.size ≤ X21.heap.size := Nat.le_of_eq ho.size.symm
  clear ho hk bO5_t29 bO5_t30
  have bO5_t29 := hv0; clear hv0
  have bO5_t30 := hv1; clear hv1
  refine pl_take (.int .i64 0) rfl (by kernel_rfl) (by kernel_rfl) (by kernel_rfl) (by kernel_rfl) ?_
  refine pl_nil ?_
  refine qw_then ?_
  refine cw_ret ?_
  refine qw_ret [.agg #[.int .i64 (((Orb.cx o (t - d) : Nat) : Int) : Int), .int .i64 (((Orb.cy o (t - d) : Nat) : Int) : Int)], .int .i64 0] rfl ⟨⟨_, by kernel_rfl, res_ld (ld57 (bO5_t29.1) (bO5_t30.1))⟩, (by kernel_rfl), trivial⟩ ?_
  exact ⟨rfl, hE⟩
set_option maxRecDepth 1000000 in
set_option maxHeartbeats 4000000 in
theorem At_n (o : Orb) (t d : Int) (w : World) (hat : Orb.atB o t d = false) : Calls Try.prog 28 #[.agg #[.int .i64 o.p, .int .i64 o.f, .int .i64 o.lo, .int .i64 o.hi, .int .i64 o.nd, .int .i64 o.tn, .int .i64 o.sl], .int .i64 t, .int .i64 d] w fun e w' => e = .returned (.tuple #[.agg #[.int .i64 0, .int .i64 0], .int .i64 70]) ∧ Ext w w' := by
  refine calls_cw 22 [(2, .int .i64 (d : Int)), (1, .int .i64 (t : Int)), (0, .agg #[.int .i64 (o.p : Int), .int .i64 (o.f : Int), .int .i64 (o.lo : Int), .int .i64 (o.hi : Int), .int .i64 (o.nd : Int), .int .i64 (o.tn : Int), .int .i64 (o.sl : Int)])] Try.func28 rfl Try.ntmps28 (by kernel_rfl) (by kernel_rfl) (fun L => ?_)
  have hE : Ext w w := Ext.refl w
  refine cw_seq ?_
  refine cw_plain ?_
  refine pl_step rfl (by kernel_rfl) (by kernel_rfl) (by kernel_rfl) (sn_new (us := #[.int .i64 (o.p : Int), .int .i64 (o.f : Int), .int .i64 (o.lo : Int), .int .i64 (o.hi : Int), .int .i64 (o.nd : Int), .int .i64 (o.tn : Int), .int .i64 (o.sl : Int)]) (t := 24) (by kernel_rfl) ?_)
  intro O1 X2 hO hOs hb hbx
  have hzO1 := hO; have hyO1 := hOs; clear hO hOs
  have bO1_0 : BoxAt X2 O1 0 (.int .i64 (o.p : Int)) := hbx 0 _ rfl
  have bO1_1 : BoxAt X2 O1 1 (.int .i64 (o.f : Int)) := hbx 1 _ rfl
  have bO1_2 : BoxAt X2 O1 2 (.int .i64 (o.lo : Int)) := hbx 2 _ rfl
  have bO1_3 : BoxAt X2 O1 3 (.int .i64 (o.hi : Int)) := hbx 3 _ rfl
  have bO1_4 : BoxAt X2 O1 4 (.int .i64 (o.nd : Int)) := hbx 4 _ rfl
  have bO1_5 : BoxAt X2 O1 5 (.int .i64 (o.tn : Int)) := hbx 5 _ rfl
  have bO1_6 : BoxAt X2 O1 6 (.int .i64 (o.sl : Int)) := hbx 6 _ rfl
  clear hbx
  replace hE := hE.trans hb
  have hs3 := hb.size
  clear hb
  have lt4 := bO1_0.lt
  refine pl_step rfl (by kernel_rfl) (by kernel_rfl) (by kernel_rfl) (sn_new (us := #[.int .i64 0, .int .i64 0]) (t := 57) (by kernel_rfl) ?_)
  intro O5 X6 hO hOs hb hbx
  have hzO5 := hO; have hyO5 := hOs; clear hO hOs
  have bO5_0 : BoxAt X6 O5 0 (.int .i64 0) := hbx 0 _ rfl
  have bO5_1 : BoxAt X6 O5 1 (.int .i64 0) := hbx 1 _ rfl
  clear hbx
  replace hE := hE.trans hb
  replace bO1_0 := BoxAt.ext hb bO1_0
  replace bO1_1 := BoxAt.ext hb bO1_1
  replace bO1_2 := BoxAt.ext hb bO1_2
  replace bO1_3 := BoxAt.ext hb bO1_3
  replace bO1_4 := BoxAt.ext hb bO1_4
  replace bO1_5 := BoxAt.ext hb bO1_5
  replace bO1_6 := BoxAt.ext hb bO1_6
  have hs7 := hb.size
  clear hb
  have lt8 := bO5_0.lt
  refine pl_take (.int .i64 0) rfl (by kernel_rfl) (by kernel_rfl) (by kernel_rfl) (by kernel_rfl) ?_
  refine pl_nil ?_
  refine qw_then ?_
  refine cw_seq ?_
  have hX9 : Ext X6 X6 := Ext.refl _
  refine cw_plain ?_
  refine pl_take (.agg #[.int .i64 (o.p : Int), .int .i64 (o.f : Int), .int .i64 (o.lo : Int), .int .i64 (o.hi : Int), .int .i64 (o.nd : Int), .int .i64 (o.tn : Int), .int .i64 (o.sl : Int)]) rfl (by kernel_rfl) (by kernel_rfl) (by kernel_rfl) (ex_load rfl (by kernel_rfl) (ld24 (bO1_0.1) (bO1_1.1) (bO1_2.1) (bO1_3.1) (bO1_4.1) (bO1_5.1) (bO1_6.1))) ?_
  refine pl_take (.int .i64 (t : Int)) rfl (by kernel_rfl) (by kernel_rfl) (by kernel_rfl) (by kernel_rfl) ?_
  refine pl_take (.int .i64 (d : Int)) rfl (by kernel_rfl) (by kernel_rfl) (by kernel_rfl) (by kernel_rfl) ?_
  refine pl_step rfl (by kernel_rfl) (by kernel_rfl) (by kernel_rfl) (sn_call (f := 63) (args := #[.agg #[.int .i64 (o.p : Int), .int .i64 (o.f : Int), .int .i64 (o.lo : Int), .int .i64 (o.hi : Int), .int .i64 (o.nd : Int), .int .i64 (o.tn : Int), .int .i64 (o.sl : Int)], .int .i64 (t : Int), .int .i64 (d : Int)]) (by kernel_rfl) ((at_n o t d _ (hat)).mono ?_))
  rintro e w11 ⟨m10, rfl, hb⟩
  replace hE := hE.trans hb
  replace hX9 := hX9.trans hb
  have hs12 := hb.size
  clear hb
  refine ⟨_, rfl, ?_⟩
  refine pl_take (.tuple #[.agg #[.int .i64 (o.p : Int), .int .i64 (o.f : Int), .int .i64 (o.lo : Int), .int .i64 (o.hi : Int), .int .i64 (o.nd : Int), .int .i64 (o.tn : Int), .int .i64 (o.sl : Int), .int .i64 (m10 : Int)], .bool false]) rfl (by kernel_rfl) (by kernel_rfl) (by kernel_rfl) (by kernel_rfl) ?_
  refine pl_take (.agg #[.int .i64 (o.p : Int), .int .i64 (o.f : Int), .int .i64 (o.lo : Int), .int .i64 (o.hi : Int), .int .i64 (o.nd : Int), .int .i64 (o.tn : Int), .int .i64 (o.sl : Int), .int .i64 (m10 : Int)]) rfl (by kernel_rfl) (by kernel_rfl) (by kernel_rfl) (by kernel_rfl) ?_
  refine pl_take (.bool false) rfl (by kernel_rfl) (by kernel_rfl) (by kernel_rfl) (by kernel_rfl) ?_
  refine pl_step rfl (by kernel_rfl) (by kernel_rfl) (by kernel_rfl) (sn_new (us := #[.int .i64 0, .int .i64 0, .int .i64 0, .int .i64 0, .int .i64 0, .int .i64 0, .int .i64 0, .int .i64 0]) (t := 96) (by kernel_rfl) ?_)
  intro O13 X14 hO hOs hb hbx
  have hzO13 := hO; have hyO13 := hOs; clear hO hOs
  have bO13_0 : BoxAt X14 O13 0 (.int .i64 0) := hbx 0 _ rfl
  have bO13_1 : BoxAt X14 O13 1 (.int .i64 0) := hbx 1 _ rfl
  have bO13_2 : BoxAt X14 O13 2 (.int .i64 0) := hbx 2 _ rfl
  have bO13_3 : BoxAt X14 O13 3 (.int .i64 0) := hbx 3 _ rfl
  have bO13_4 : BoxAt X14 O13 4 (.int .i64 0) := hbx 4 _ rfl
  have bO13_5 : BoxAt X14 O13 5 (.int .i64 0) := hbx 5 _ rfl
  have bO13_6 : BoxAt X14 O13 6 (.int .i64 0) := hbx 6 _ rfl
  have bO13_7 : BoxAt X14 O13 7 (.int .i64 0) := hbx 7 _ rfl
  clear hbx
  replace hE := hE.trans hb
  replace hX9 := hX9.trans hb
  have hs15 := hb.size
  clear hb
  have lt16 := bO13_0.lt
  refine pl_put rfl (by kernel_rfl) (by kernel_rfl) (sn_setK8 (O := O13) (j := 0) (v0 := .int .i64 (o.p : Int)) (v1 := .int .i64 (o.f : Int)) (v2 := .int .i64 (o.lo : Int)) (v3 := .int .i64 (o.hi : Int)) (v4 := .int .i64 (o.nd : Int)) (v5 := .int .i64 (o.tn : Int)) (v6 := .int .i64 (o.sl : Int)) (v7 := .int .i64 (m10 : Int)) (ex_store (p := .pointer (some ⟨O13, 0, none⟩)) (v := .agg #[.int .i64 (o.p : Int), .int .i64 (o.f : Int), .int .i64 (o.lo : Int), .int .i64 (o.hi : Int), .int .i64 (o.nd : Int), .int .i64 (o.tn : Int), .int .i64 (o.sl : Int), .int .i64 (m10 : Int)]) rfl (by kernel_rfl) (by kernel_rfl) (st96 bO13_0.1 bO13_0.2 bO13_1.1 bO13_1.2 bO13_2.1 bO13_2.2 bO13_3.1 bO13_3.2 bO13_4.1 bO13_4.2 bO13_5.1 bO13_5.2 bO13_6.1 bO13_6.2 bO13_7.1 bO13_7.2)) bO13_0 bO13_1 bO13_2 bO13_3 bO13_4 bO13_5 bO13_6 bO13_7 ?_)
  intro X17 ho hv0 hv1 hv2 hv3 hv4 hv5 hv6 hv7 hk
  replace hE := ho.ext hE (Nat.le_trans (Nat.le_trans hs3 (Nat.le_trans hs7 hs12)) (Nat.le_of_eq hzO13))
  replace hX9 := ho.ext hX9 (Nat.le_trans hs12 (Nat.le_of_eq hzO13))
  have hs18 : X14.heap.size ≤ X17.heap.size := Nat.le_of_eq ho.size.symm
  clear ho hk bO13_0 bO13_1 bO13_2 bO13_3 bO13_4 bO13_5 bO13_6 bO13_7
  have bO13_0 := hv0; clear hv0
  have bO13_1 := hv1; clear hv1
  have bO13_2 := hv2; clear hv2
  have bO13_3 := hv3; clear hv3
  have bO13_4 := hv4; clear hv4
  have bO13_5 := hv5; clear hv5
  have bO13_6 := hv6; clear hv6
  have bO13_7 := hv7; clear hv7
  refine pl_take (.bool false) rfl (by kernel_rfl) (by kernel_rfl) (by kernel_rfl) (by kernel_rfl) ?_
  refine pl_nil ?_
  refine qw_then ?_
  refine cw_clean [6, 8, 9] (ws' := [(6, .pointer (some ⟨O5, 0, none⟩)), (8, .pointer (some ⟨O13, 0, none⟩)), (9, .bool false)]) (by kernel_rfl) (fun L => ?_)
  refine cw_seq ?_
  refine cw_seq ?_
  have hX19 : Ext X17 X17 := Ext.refl _
  refine cw_plain ?_
  refine pl_take (.bool false) rfl (by kernel_rfl) (by kernel_rfl) (by kernel_rfl) (by kernel_rfl) ?_
  refine pl_take (.bool true) rfl (by kernel_rfl) (by kernel_rfl) (by kernel_rfl) (by kernel_rfl) ?_
  refine pl_nil ?_
  refine qw_then ?_
  refine cw_t (by kernel_rfl) ?_
  refine cw_seq ?_
  refine cw_plain ?_
  refine pl_take (.agg #[.int .i64 0, .int .i64 0]) rfl (by kernel_rfl) (by kernel_rfl) (by kernel_rfl) (by kernel_rfl) ?_
  have bO1_t21 := (BoxAt.ext (hX9.trans hX19) bO1_0)
  have bO1_t22 := (BoxAt.ext (hX9.trans hX19) bO1_1)
  have bO1_t23 := (BoxAt.ext (hX9.trans hX19) bO1_2)
  have bO1_t24 := (BoxAt.ext (hX9.trans hX19) bO1_3)
  have bO1_t25 := (BoxAt.ext (hX9.trans hX19) bO1_4)
  have bO1_t26 := (BoxAt.ext (hX9.trans hX19) bO1_5)
  have bO1_t27 := (BoxAt.ext (hX9.trans hX19) bO1_6)
  have bO5_t28 := (BoxAt.ext (hX9.trans hX19) bO5_0)
  have bO5_t29 := (BoxAt.ext (hX9.trans hX19) bO5_1)
  have bO13_t30 := bO13_0
  have bO13_t31 := bO13_1
  have bO13_t32 := bO13_2
  have bO13_t33 := bO13_3
  have bO13_t34 := bO13_4
  have bO13_t35 := bO13_5
  have bO13_t36 := bO13_6
  have bO13_t37 := bO13_7
  refine pl_put rfl (by kernel_rfl) (by kernel_rfl) (sn_set2 (O := O5) (j := 0) (v := .int .i64 0) (v' := .int .i64 0) (ex_store (p := .pointer (some ⟨O5, 0, none⟩)) (v := .agg #[.int .i64 0, .int .i64 0]) rfl (by kernel_rfl) (by kernel_rfl) (st57 bO5_t28.1 bO5_t28.2 bO5_t29.1 bO5_t29.2)) bO5_t28 bO5_t29 ?_)
  intro X20 ho hv0 hv1 hk
  replace hE := ho.ext hE (Nat.le_trans hs3 (Nat.le_of_eq hzO5))
  replace bO1_t21 := ho.box (Nat.ne_of_gt (Nat.lt_of_lt_of_le lt4 (Nat.le_of_eq hzO5))) bO1_t21
  replace bO1_t22 := ho.box (Nat.ne_of_gt (Nat.lt_of_lt_of_le lt4 (Nat.le_of_eq hzO5))) bO1_t22
  replace bO1_t23 := ho.box (Nat.ne_of_gt (Nat.lt_of_lt_of_le lt4 (Nat.le_of_eq hzO5))) bO1_t23
  replace bO1_t24 := ho.box (Nat.ne_of_gt (Nat.lt_of_lt_of_le lt4 (Nat.le_of_eq hzO5))) bO1_t24
  replace bO1_t25 := ho.box (Nat.ne_of_gt (Nat.lt_of_lt_of_le lt4 (Nat.le_of_eq hzO5))) bO1_t25
  replace bO1_t26 := ho.box (Nat.ne_of_gt (Nat.lt_of_lt_of_le lt4 (Nat.le_of_eq hzO5))) bO1_t26
  replace bO1_t27 := ho.box (Nat.ne_of_gt (Nat.lt_of_lt_of_le lt4 (Nat.le_of_eq hzO5))) bO1_t27
  replace bO13_t30 := ho.box (Nat.ne_of_lt (Nat.lt_of_lt_of_le lt8 (Nat.le_trans hs12 (Nat.le_of_eq hzO13)))) bO13_t30
  replace bO13_t31 := ho.box (Nat.ne_of_lt (Nat.lt_of_lt_of_le lt8 (Nat.le_trans hs12 (Nat.le_of_eq hzO13)))) bO13_t31
  replace bO13_t32 := ho.box (Nat.ne_of_lt (Nat.lt_of_lt_of_le lt8 (Nat.le_trans hs12 (Nat.le_of_eq hzO13)))) bO13_t32
  replace bO13_t33 := ho.box (Nat.ne_of_lt (Nat.lt_of_lt_of_le lt8 (Nat.le_trans hs12 (Nat.le_of_eq hzO13)))) bO13_t33
  replace bO13_t34 := ho.box (Nat.ne_of_lt (Nat.lt_of_lt_of_le lt8 (Nat.le_trans hs12 (Nat.le_of_eq hzO13)))) bO13_t34
  replace bO13_t35 := ho.box (Nat.ne_of_lt (Nat.lt_of_lt_of_le lt8 (Nat.le_trans hs12 (Nat.le_of_eq hzO13)))) bO13_t35
  replace bO13_t36 := ho.box (Nat.ne_of_lt (Nat.lt_of_lt_of_le lt8 (Nat.le_trans hs12 (Nat.le_of_eq hzO13)))) bO13_t36
  replace bO13_t37 := ho.box (Nat.ne_of_lt (Nat.lt_of_lt_of_le lt8 (Nat.le_trans hs12 (Nat.le_of_eq hzO13)))) bO13_t37
  have hs38 : X17.heap.size ≤ X20.heap.size := Nat.le_of_eq ho.size.symm
  clear ho hk bO5_t28 bO5_t29
  have bO5_t28 := hv0; clear hv0
  have bO5_t29 := hv1; clear hv1
  refine pl_take (.int .i64 70) rfl (by kernel_rfl) (by kernel_rfl) (by kernel_rfl) (by kernel_rfl) ?_
  refine pl_nil ?_
  refine qw_then ?_
  refine cw_ret ?_
  refine qw_then_ret ?_
  refine qw_ret [.agg #[.int .i64 0, .int .i64 0], .int .i64 70] rfl ⟨⟨_, by kernel_rfl, res_ld (ld57 (bO5_t28.1) (bO5_t29.1))⟩, (by kernel_rfl), trivial⟩ ?_
  exact ⟨rfl, hE⟩

end Go.Proofs.Ytdjjkhefdalokaa

/- How many cells an area has; distances of cells. Plain mathematics. -/
namespace Go.Proofs.Ytdjjkhefdalokaa
namespace Globe

def allCells (n : Nat) : List (Nat × Nat) := (List.range n).flatMap fun y => (List.range 48).map fun x => (x, y)
theorem cellsTo_filter (l : List Int) (n : Nat) : cellsTo l n = (allCells n).filter fun p => hasL l p.1 p.2 := by
  unfold cellsTo allCells
  rw [List.filter_flatMap]
  congr 1
  funext y
  unfold rowCells bitsN
  rw [List.filter_map]
  rfl
theorem mem_all {n : Nat} {p : Nat × Nat} : p ∈ allCells n ↔ p.1 < 48 ∧ p.2 < n := by
  obtain ⟨x, y⟩ := p
  simp only [allCells, List.mem_flatMap, List.mem_range, List.mem_map, Prod.mk.injEq]
  constructor
  · rintro ⟨y', hy, x', hx, rfl, rfl⟩; exact ⟨hx, hy⟩
  · rintro ⟨hx, hy⟩; exact ⟨y, hy, x, hx, rfl, rfl⟩
theorem count_eq (l : List Int) (n : Nat) : (cellsTo l n).length = (allCells n).countP fun p => hasL l p.1 p.2 := by
  rw [cellsTo_filter, List.countP_eq_length_filter]
theorem countP_incl {α : Type} (p q : α → Bool) (l : List α) : (l.countP fun a => p a || q a) + (l.countP fun a => p a && q a) = l.countP p + l.countP q := by
  induction l with
  | nil => rfl
  | cons a l ih =>
    simp only [List.countP_cons]
    cases p a <;> cases q a <;> simp <;> omega
theorem countP_diff {α : Type} (p q : α → Bool) (l : List α) : (l.countP fun a => p a && !q a) + (l.countP fun a => p a && q a) = l.countP p := by
  induction l with
  | nil => rfl
  | cons a l ih =>
    simp only [List.countP_cons]
    cases p a <;> cases q a <;> simp <;> omega
theorem countP_congr' {α : Type} {p q : α → Bool} {l : List α} (h : ∀ a ∈ l, p a = q a) : l.countP p = l.countP q := by
  rw [List.countP_eq_length_filter, List.countP_eq_length_filter, List.filter_congr h]
theorem count_congr {a : List Int} {q : Nat × Nat → Bool} (h : ∀ x y, x < 48 → y < 24 → hasL a x y = q (x, y)) : (cellsTo a 24).length = (allCells 24).countP q := by
  rw [count_eq]
  exact countP_congr' fun p hp => h p.1 p.2 (mem_all.1 hp).1 (mem_all.1 hp).2
theorem count_union (a b : List Int) : (cellsTo (unionL a b) 24).length + (cellsTo (meetL a b) 24).length = (cellsTo a 24).length + (cellsTo b 24).length := by
  rw [count_congr (a := unionL a b) (q := fun p => hasL a p.1 p.2 || hasL b p.1 p.2) fun x y _ hy => has_union hy,
    count_congr (a := meetL a b) (q := fun p => hasL a p.1 p.2 && hasL b p.1 p.2) fun x y _ hy => has_meet hy, countP_incl, count_eq, count_eq]
theorem count_less (a b : List Int) : (cellsTo (lessL a b) 24).length + (cellsTo (meetL a b) 24).length = (cellsTo a 24).length := by
  rw [count_congr (a := lessL a b) (q := fun p => hasL a p.1 p.2 && !hasL b p.1 p.2) fun x y _ hy => has_less hy,
    count_congr (a := meetL a b) (q := fun p => hasL a p.1 p.2 && hasL b p.1 p.2) fun x y _ hy => has_meet hy, countP_diff, count_eq]

/-- The empty area. -/
theorem count_zero_iff {l : List Int} (h : validL l = true) : (cellsTo l 24).length = 0 ↔ l = zeroL := by
  constructor
  · intro e
    have e' : cellsTo l 24 = [] := List.length_eq_zero_iff.1 e
    refine ext_has h valid_zero fun x y hx hy => ?_
    rw [has_zero]
    cases hh : hasL l x y
    · rfl
    · have := (mem_cells (n := 24) (p := (x, y))).2 ⟨hy, hx, hh⟩
      rw [e'] at this
      cases this
  · rintro rfl
    rw [count_eq]
    rw [List.countP_eq_zero]
    intro p _
    rw [has_zero]; simp

/-- Whether an area has all cells of another one. -/
def containsB (a b : List Int) : Bool := validL a && validL b && decide (lessL b a = zeroL)
theorem contains_iff {a b : List Int} (ha : validL a = true) (hb : validL b = true) : containsB a b = true ↔ ∀ x y, x < 48 → y < 24 → hasL b x y = true → hasL a x y = true := by
  unfold containsB
  rw [ha, hb]
  simp only [Bool.true_and, decide_eq_true_eq]
  constructor
  · intro e x y hx hy h
    have := has_less (a := b) (b := a) (x := x) hy
    rw [e, has_zero, h] at this
    simpa using this
  · intro h
    refine ext_has (less_valid hb) valid_zero fun x y hx hy => ?_
    rw [has_zero, has_less hy]
    cases hh : hasL b x y
    · rfl
    · rw [h x y hx hy hh]; rfl
theorem contains_count {a b : List Int} (ha : validL a = true) (hb : validL b = true) : containsB a b = decide ((cellsTo (meetL a b) 24).length = (cellsTo b 24).length) := by
  have h1 := count_less b a
  have h2 : (cellsTo (meetL b a) 24).length = (cellsTo (meetL a b) 24).length := by
    rw [count_congr (a := meetL b a) (q := fun p => hasL a p.1 p.2 && hasL b p.1 p.2) fun x y _ hy => by rw [has_meet hy, Bool.and_comm],
      count_congr (a := meetL a b) (q := fun p => hasL a p.1 p.2 && hasL b p.1 p.2) fun x y _ hy => has_meet hy]
  have h3 := count_zero_iff (less_valid (b := a) hb)
  unfold containsB
  rw [ha, hb, Bool.true_and, Bool.true_and, Bool.eq_iff_iff, decide_eq_true_eq, decide_eq_true_eq, ← h3]
  omega

/-! Shifting keeps the number of cells. -/
theorem rot_map {k : Nat} (hk : k < 48) : (List.range 48).map (fun x => (x + 48 - k) % 48) = (List.range k).map (48 - k + ·) ++ List.range (48 - k) := by
  have e : List.range 48 = List.range k ++ (List.range (48 - k)).map (k + ·) := by rw [← List.range_add]; congr 1; omega
  rw [e, List.map_append, List.map_map]
  congr 1
  · exact List.map_congr_left fun x hx => by have := List.mem_range.1 hx; omega
  · conv => rhs; rw [← List.map_id (List.range (48 - k))]
    exact List.map_congr_left fun x hx => by have := List.mem_range.1 hx; simp only [Function.comp, id]; omega
theorem countP_rot (q : Nat → Bool) {k : Nat} (hk : k < 48) : ((List.range 48).countP fun x => q ((x + 48 - k) % 48)) = (List.range 48).countP q := by
  have e1 : ((List.range 48).countP fun x => q ((x + 48 - k) % 48)) = ((List.range 48).map (fun x => (x + 48 - k) % 48)).countP q := by rw [List.countP_map]; rfl
  have e2 : List.range 48 = List.range (48 - k) ++ (List.range k).map (48 - k + ·) := by rw [← List.range_add]; congr 1; omega
  rw [e1, rot_map hk]
  conv => rhs; rw [e2]
  rw [List.countP_append, List.countP_append]
  omega
theorem countP_all (q : Nat × Nat → Bool) : ∀ n, (allCells n).countP q = ((List.range n).map fun y => (List.range 48).countP fun x => q (x, y)).sum
  | 0 => rfl
  | n + 1 => by
    have := countP_all q n
    unfold allCells at this ⊢
    rw [List.range_succ (n := n), List.flatMap_append, List.countP_append, this, List.map_append, List.sum_append]
    simp [List.countP_map, Function.comp_def]
theorem count_shift {l : List Int} (hl : validL l = true) {k : Nat} (hk : k < 48) : (cellsTo (shiftL l k) 24).length = (cellsTo l 24).length := by
  rw [count_congr (a := shiftL l k) (q := fun p => hasL l ((p.1 + 48 - k) % 48) p.2) fun x y hx hy => has_shift hl hk hx hy, count_eq, countP_all, countP_all]
  congr 1
  exact List.map_congr_left fun y _ => countP_rot (fun x => hasL l x y) hk

/-- How many numbers below n are less than w. -/
theorem countP_lt (w : Nat) : ∀ n, ((List.range n).countP fun x => decide (x < w)) = min w n
  | 0 => by simp
  | n + 1 => by
    rw [List.range_succ, List.countP_append, countP_lt w n]
    by_cases h : n < w
    · simp [h]; omega
    · simp [h]; omega
theorem sum_from (c w : Nat) : ∀ (n cy h : Nat), cy + h ≤ n → ((List.range n).map fun y => if cy ≤ y ∧ y < cy + h then w else 0).sum = w * h
  | 0, cy, h, e => by
    obtain rfl : h = 0 := by omega
    simp
  | n + 1, cy, h, e => by
    rw [List.range_succ, List.map_append, List.sum_append]
    by_cases e2 : cy + h ≤ n
    · rw [sum_from c w n cy h e2]
      simp only [List.map_cons, List.map_nil, List.sum_cons, List.sum_nil]
      rw [if_neg (by omega)]; omega
    · cases h with
      | zero =>
        have : ∀ y, (if cy ≤ y ∧ y < cy + 0 then w else 0) = 0 := fun y => if_neg (by omega)
        simp only [this]
        have z : ∀ m : Nat, ((List.range m).map fun _ => 0).sum = 0 := fun m => by induction m with
          | zero => rfl
          | succ m ih => rw [List.range_succ, List.map_append, List.sum_append, ih]; rfl
        rw [z]; simp
      | succ h =>
        have e3 : cy + h = n := by omega
        have e4 : ((List.range n).map fun y => if cy ≤ y ∧ y < cy + (h + 1) then w else 0) = ((List.range n).map fun y => if cy ≤ y ∧ y < cy + h then w else 0) :=
          List.map_congr_left fun y hy => by
            have := List.mem_range.1 hy
            by_cases c : cy ≤ y
            · rw [if_pos ⟨c, by omega⟩, if_pos ⟨c, by omega⟩]
            · rw [if_neg (by omega), if_neg (by omega)]
        rw [e4, sum_from c w n cy h (by omega)]
        simp only [List.map_cons, List.map_nil, List.sum_cons, List.sum_nil]
        rw [if_pos (by omega), Nat.mul_succ]; omega
theorem count_box {cx cy wide high : Nat} (hc : cx < 48) (hw : wide ≤ 48) (hh : cy + high ≤ 24) : (cellsTo (boxL cx cy wide high) 24).length = wide * high := by
  rw [count_congr (a := boxL cx cy wide high) (q := fun p => decide (cy ≤ p.2 ∧ p.2 < cy + high) && decide ((p.1 + 48 - cx) % 48 < wide)) fun x y hx hy => has_box hc hw hx hy, countP_all]
  rw [← sum_from 0 wide 24 cy high hh]
  congr 1
  refine List.map_congr_left fun y _ => ?_
  dsimp only
  by_cases e : cy ≤ y ∧ y < cy + high
  · rw [if_pos e]
    have := countP_rot (fun x => decide (x < wide)) hc
    rw [countP_lt] at this
    rw [Nat.min_eq_left hw] at this
    rw [show (fun p => decide (cy ≤ y ∧ y < cy + high) && decide ((p + 48 - cx) % 48 < wide)) = fun p => decide ((p + 48 - cx) % 48 < wide) from funext fun p => by simp [e]]
    exact this
  · rw [if_neg e, List.countP_eq_zero]
    intro x _
    simp only [Bool.and_eq_true, decide_eq_true_eq]
    exact fun h => e h.1

end Globe
end Go.Proofs.Ytdjjkhefdalokaa

/- What an exposure shows. -/
namespace Go.Proofs.Ytdjjkhefdalokaa
namespace Globe
theorem ext24 {a b : List Int} (h1 : a.length = 24) (h2 : b.length = 24) (h : ∀ y, y < 24 → nth a y = nth b y) : a = b :=
  List.ext_getElem (by omega) fun y k1 k2 => by
    have := h y (by omega)
    rwa [nth_lt k1, nth_lt k2] at this
theorem rowsF_id {L : List Int} (h : validL L = true) : rowsF (fun y => rowN L y) = L :=
  ext24 (rowsF_len _) (len_of_valid h) fun y hy => by rw [nth_rowsF _ hy, ← rowN_cast h]
/-- Two areas, combined in the first i rows. -/
def mixL (f : Nat → Nat → Nat) (L M : List Int) (i : Nat) : List Int := rowsF fun y => if y < i then f (rowN L y) (rowN M y) else rowN L y
theorem mix_0 {f : Nat → Nat → Nat} {L M : List Int} (h : validL L = true) : mixL f L M 0 = L := by
  unfold mixL
  simp only [Nat.not_lt_zero, if_false]
  exact rowsF_id h
theorem mix_len (f : Nat → Nat → Nat) (L M : List Int) (i : Nat) : (mixL f L M i).length = 24 := rowsF_len _
theorem mix_nth (f : Nat → Nat → Nat) (L M : List Int) (i : Nat) {y : Nat} (hy : y < 24) : nth (mixL f L M i) y = (((if y < i then f (rowN L y) (rowN M y) else rowN L y) : Nat) : Int) := nth_rowsF _ hy
theorem mix_24 (f : Nat → Nat → Nat) (L M : List Int) : mixL f L M 24 = rowsF fun y => f (rowN L y) (rowN M y) :=
  ext24 (mix_len _ _ _ _) (rowsF_len _) fun y hy => by rw [mix_nth _ _ _ _ hy, nth_rowsF _ hy, if_pos hy]
theorem mix_row {f : Nat → Nat → Nat} {L M : List Int} {i : Nat} (hi : i < 24) : rowN (mixL f L M i) i = rowN L i := by
  show (nth (mixL f L M i) i).toNat = rowN L i
  rw [mix_nth _ _ _ _ hi, if_neg (Nat.lt_irrefl i), Int.toNat_natCast]
theorem mix_succ {f : Nat → Nat → Nat} {L M : List Int} {i : Nat} (hi : i < 24) : (mixL f L M i).set i ((f (rowN (mixL f L M i) i) (rowN M i) : Nat) : Int) = mixL f L M (i + 1) := by
  rw [mix_row hi]
  refine ext24 (by rw [List.length_set, mix_len]) (mix_len _ _ _ _) fun y hy => ?_
  rw [nth_set _ (by rw [mix_len]; exact hi), mix_nth _ _ _ _ hy]
  rw [mix_nth _ _ _ _ hy]
  by_cases e : i = y
  · subst e; rw [if_pos rfl, if_pos (by omega)]
  · rw [if_neg e]
    by_cases h : y < i
    · rw [if_pos h, if_pos (by omega)]
    · rw [if_neg h, if_neg (by omega)]
theorem mix_valid {f : Nat → Nat → Nat} (hf : ∀ p q, p < 281474976710656 → q < 281474976710656 → f p q < 281474976710656) {L M : List Int} (hL : validL L = true) (hM : validL M = true) (i : Nat) : validL (mixL f L M i) = true :=
  rowsF_valid fun y _ => by
    by_cases h : y < i
    · rw [if_pos h]; exact hf _ _ (rowN_lt hL y) (rowN_lt hM y)
    · rw [if_neg h]; exact rowN_lt hL y
def and8 (p q : Nat) : Nat := p &&& q
def or8 (p q : Nat) : Nat := p ||| q
theorem and8_lt (p q : Nat) (h : p < 281474976710656) (_ : q < 281474976710656) : and8 p q < 281474976710656 := Nat.lt_of_le_of_lt Nat.and_le_left h
theorem or8_lt (p q : Nat) (h : p < 281474976710656) (k : q < 281474976710656) : or8 p q < 281474976710656 := Nat.or_lt_two_pow (n := 48) h k
end Globe
namespace Swath
open Globe
def spB (s : Int × Int) (most : Int) : Bool := decide (0 ≤ s.1) && decide (s.1 < s.2) && decide (s.2 ≤ 1000001) && decide (s.2 - s.1 ≤ most)
theorem spB_t {s : Int × Int} {most : Int} : spB s most = true ↔ 0 ≤ s.1 ∧ s.1 < s.2 ∧ s.2 ≤ 1000001 ∧ s.2 - s.1 ≤ most := by
  unfold spB; simp [and_assoc]
/-- Is an exposure valid? -/
def shB (o : Orb) (s : Int × Int) (l : Int) : Bool := Orb.ok o && spB s 60 && inB l (-4) 4
theorem shB_t {o : Orb} {s : Int × Int} {l : Int} : shB o s l = true ↔ Orb.ok o = true ∧ (0 ≤ s.1 ∧ s.1 < s.2 ∧ s.2 ≤ 1000001 ∧ s.2 - s.1 ≤ 60) ∧ -4 ≤ l ∧ l ≤ 4 := by
  unfold shB; simp only [Bool.and_eq_true, spB_t, inB_t, and_assoc]
/-- The column that is shown. -/
def sx (o : Orb) (l u : Int) : Nat := (((Orb.cx o u : Int) + l + 48) % 48).toNat
theorem sx_lt (o : Orb) (l u : Int) : sx o l u < 48 := by unfold sx; omega
theorem sx_z (o : Orb) (l u : Int) : ((Orb.cx o u : Int) + l + 48) % 48 = (sx o l u : Int) := by unfold sx; omega
/-- What is shown from u on, for n minutes. -/
def showL (o : Orb) (l u : Int) : Nat → List Int
  | 0 => zeroL
  | n + 1 => putL (showL o l u n) (sx o l (u + n)) (Orb.cy o (u + n))
theorem show_valid {o : Orb} (h : Orb.ok o = true) (l u : Int) : ∀ n, validL (showL o l u n) = true
  | 0 => show validL zeroL = true by decide
  | n + 1 => valid_put (show_valid h l u n) (sx_lt _ _ _)
/-- What all of the first areas have; what one of them has. -/
def foldM (A : Nat → List Int) : Nat → List Int
  | 0 => zeroL
  | 1 => A 0
  | k + 2 => meetL (foldM A (k + 1)) (A (k + 1))
def foldU (A : Nat → List Int) : Nat → List Int
  | 0 => zeroL
  | 1 => A 0
  | k + 2 => unionL (foldU A (k + 1)) (A (k + 1))
theorem foldM_succ {A : Nat → List Int} {i : Nat} (h : 0 < i) : foldM A (i + 1) = meetL (foldM A i) (A i) := by
  obtain ⟨k, rfl⟩ : ∃ k, i = k + 1 := ⟨i - 1, by omega⟩
  rfl
theorem foldU_succ {A : Nat → List Int} {i : Nat} (h : 0 < i) : foldU A (i + 1) = unionL (foldU A i) (A i) := by
  obtain ⟨k, rfl⟩ : ∃ k, i = k + 1 := ⟨i - 1, by omega⟩
  rfl
theorem foldM_valid {A : Nat → List Int} (h : ∀ i, validL (A i) = true) : ∀ i, validL (foldM A i) = true
  | 0 => show validL zeroL = true by decide
  | 1 => h 0
  | k + 2 => meet_valid (foldM_valid h (k + 1))
theorem foldU_valid {A : Nat → List Int} (h : ∀ i, validL (A i) = true) : ∀ i, validL (foldU A i) = true
  | 0 => show validL zeroL = true by decide
  | 1 => h 0
  | k + 2 => union_valid (foldU_valid h (k + 1)) (h (k + 1))
/-- What is shown with the j-th delay. -/
def areaJ (o : Orb) (s : Int × Int) (lk : Int) (j : Nat) : List Int := showL o lk (s.1 - (-o.sl + ((j : Nat) : Int))) (s.2 - s.1).toNat
theorem areaJ_valid {o : Orb} (h : Orb.ok o = true) (s : Int × Int) (lk : Int) (j : Nat) : validL (areaJ o s lk j) = true := show_valid h _ _ _
def lates (o : Orb) : Nat := (2 * o.sl + 1).toNat
def sureL (o : Orb) (s : Int × Int) (lk : Int) : List Int := foldM (areaJ o s lk) (lates o)
def canL (o : Orb) (s : Int × Int) (lk : Int) : List Int := foldU (areaJ o s lk) (lates o)
theorem sure_valid {o : Orb} (h : Orb.ok o = true) (s : Int × Int) (lk : Int) : validL (sureL o s lk) = true := foldM_valid (areaJ_valid h s lk) _
theorem can_valid {o : Orb} (h : Orb.ok o = true) (s : Int × Int) (lk : Int) : validL (canL o s lk) = true := foldU_valid (areaJ_valid h s lk) _
def showsB (o : Orb) (s : Int × Int) (lk : Int) (l : List Int) : Bool := shB o s lk && containsB (sureL o s lk) l
end Swath
end Go.Proofs.Ytdjjkhefdalokaa

/- Contracts of package swath: isSpell, Valid, delays, shown. -/
namespace Go.Proofs.Ytdjjkhefdalokaa
open Go.RowKit

/-- What the iterator of shown cells has captured. -/
def ShownAt (w : World) (B1 B2 B3 B4 : Nat) (o : Orb) (s : Int × Int) (l d : Int) : Prop :=
  w.cell? ⟨B1, 0, none⟩ = some (.int .i64 s.1) ∧ w.cell? ⟨B1, 1, none⟩ = some (.int .i64 s.2) ∧ w.cell? ⟨B2, 0, none⟩ = some (.int .i64 o.p) ∧ w.cell? ⟨B2, 1, none⟩ = some (.int .i64 o.f) ∧ w.cell? ⟨B2, 2, none⟩ = some (.int .i64 o.lo) ∧ w.cell? ⟨B2, 3, none⟩ = some (.int .i64 o.hi) ∧
    w.cell? ⟨B2, 4, none⟩ = some (.int .i64 o.nd) ∧ w.cell? ⟨B2, 5, none⟩ = some (.int .i64 o.tn) ∧ w.cell? ⟨B2, 6, none⟩ = some (.int .i64 o.sl) ∧ w.cell? ⟨B3, 0, none⟩ = some (.int .i64 d) ∧ w.cell? ⟨B4, 0, none⟩ = some (.int .i64 l)
set_option maxRecDepth 1000000 in
set_option maxHeartbeats 4000000 in
theorem isSpell_c (s : Int × Int) (m : Int) (w : World) : Calls Try.prog 57 #[.agg #[.int .i64 s.1, .int .i64 s.2], .int .i64 m] w fun e w' => e = .returned (.bool (Swath.spB s m)) ∧ Ext w w' := by
  refine calls_cw 29 [(1, .int .i64 (m : Int)), (0, .agg #[.int .i64 (s.1 : Int), .int .i64 (s.2 : Int)])] Try.func57 rfl Try.ntmps57 (by kernel_rfl) (by kernel_rfl) (fun L => ?_)
  have hE : Ext w w := Ext.refl w
  refine cw_seq ?_
  refine cw_plain ?_
  refine pl_step rfl (by kernel_rfl) (by kernel_rfl) (by kernel_rfl) (sn_new (us := #[.int .i64 (s.1 : Int), .int .i64 (s.2 : Int)]) (t := 26) (by kernel_rfl) ?_)
  intro O1 X2 hO hOs hb hbx
  have hzO1 := hO; have hyO1 := hOs; clear hO hOs
  have bO1_0 : BoxAt X2 O1 0 (.int .i64 (s.1 : Int)) := hbx 0 _ rfl
  have bO1_1 : BoxAt X2 O1 1 (.int .i64 (s.2 : Int)) := hbx 1 _ rfl
  clear hbx
  replace hE := hE.trans hb
  have hs3 := hb.size
  clear hb
  have lt4 := bO1_0.lt
  refine pl_take (.bool false) rfl (by kernel_rfl) (by kernel_rfl) (by kernel_rfl) (by kernel_rfl) ?_
  refine pl_nil ?_
  refine qw_then ?_
  refine cw_seq ?_
  refine cw_plain ?_
  refine pl_take (.pointer (some ⟨O1, 0, none⟩)) rfl (by kernel_rfl) (by kernel_rfl) (by kernel_rfl) (by kernel_rfl) ?_
  refine pl_take (.int .i64 (s.1 : Int)) rfl (by kernel_rfl) (by kernel_rfl) (by kernel_rfl) (ex_load rfl (by kernel_rfl) (ld3 (bO1_0.1))) ?_
  by_cases hc5 : (0 : Int) ≤ (s.1 : Int)
  ·
    refine pl_take (.bool true) rfl (by kernel_rfl) (by kernel_rfl) (by kernel_rfl) (ev_dec (show _ = Result.ok (Next.value (Value.bool (decide ((0 : Int) ≤ (s.1 : Int))))) _ from by kernel_rfl) (hc5)) ?_
    refine pl_take (.bool true) rfl (by kernel_rfl) (by kernel_rfl) (by kernel_rfl) (by kernel_rfl) ?_
    refine pl_take (.pointer (some ⟨O1, 0, none⟩)) rfl (by kernel_rfl) (by kernel_rfl) (by kernel_rfl) (by kernel_rfl) ?_
    refine pl_take (.int .i64 (s.1 : Int)) rfl (by kernel_rfl) (by kernel_rfl) (by kernel_rfl) (ex_load rfl (by kernel_rfl) (ld3 (bO1_0.1))) ?_
    refine pl_take (.pointer (some ⟨O1, 1, none⟩)) rfl (by kernel_rfl) (by kernel_rfl) (by kernel_rfl) (by kernel_rfl) ?_
    refine pl_take (.int .i64 (s.2 : Int)) rfl (by kernel_rfl) (by kernel_rfl) (by kernel_rfl) (ex_load rfl (by kernel_rfl) (ld3 (bO1_1.1))) ?_
    by_cases hc6 : (s.1 : Int) < (s.2 : Int)
    ·
      refine pl_take (.bool true) rfl (by kernel_rfl) (by kernel_rfl) (by kernel_rfl) (ev_dec (show _ = Result.ok (Next.value (Value.bool (decide ((s.1 : Int) < (s.2 : Int))))) _ from by kernel_rfl) (hc6)) ?_
      refine pl_take (.bool true) rfl (by kernel_rfl) (by kernel_rfl) (by kernel_rfl) (by kernel_rfl) ?_
      refine pl_take (.bool true) rfl (by kernel_rfl) (by kernel_rfl) (by kernel_rfl) (by kernel_rfl) ?_
      refine pl_take (.pointer (some ⟨O1, 1, none⟩)) rfl (by kernel_rfl) (by kernel_rfl) (by kernel_rfl) (by kernel_rfl) ?_
      refine pl_take (.int .i64 (s.2 : Int)) rfl (by kernel_rfl) (by kernel_rfl) (by kernel_rfl) (ex_load rfl (by kernel_rfl) (ld3 (bO1_1.1))) ?_
      by_cases hc7 : (s.2 : Int) ≤ (1000001 : Int)
      ·
        refine pl_take (.bool true) rfl (by kernel_rfl) (by kernel_rfl) (by kernel_rfl) (ev_dec (show _ = Result.ok (Next.value (Value.bool (decide ((s.2 : Int) ≤ (1000001 : Int))))) _ from by kernel_rfl) (hc7)) ?_
        refine pl_take (.bool true) rfl (by kernel_rfl) (by kernel_rfl) (by kernel_rfl) (by kernel_rfl) ?_
        refine pl_take (.bool true) rfl (by kernel_rfl) (by kernel_rfl) (by kernel_rfl) (by kernel_rfl) ?_
        refine pl_take (.pointer (some ⟨O1, 1, none⟩)) rfl (by kernel_rfl) (by kernel_rfl) (by kernel_rfl) (by kernel_rfl) ?_
        refine pl_take (.int .i64 (s.2 : Int)) rfl (by kernel_rfl) (by kernel_rfl) (by kernel_rfl) (ex_load rfl (by kernel_rfl) (ld3 (bO1_1.1))) ?_
        refine pl_take (.pointer (some ⟨O1, 0, none⟩)) rfl (by kernel_rfl) (by kernel_rfl) (by kernel_rfl) (by kernel_rfl) ?_
        refine pl_take (.int .i64 (s.1 : Int)) rfl (by kernel_rfl) (by kernel_rfl) (by kernel_rfl) (ex_load rfl (by kernel_rfl) (ld3 (bO1_0.1))) ?_
        refine pl_take (.int .i64 (s.2 - s.1 : Int)) rfl (by kernel_rfl) (by kernel_rfl) (by kernel_rfl) (ev_wrap (by kernel_rfl) (by omega) (by omega)) ?_
        refine pl_take (.int .i64 (m : Int)) rfl (by kernel_rfl) (by kernel_rfl) (by kernel_rfl) (by kernel_rfl) ?_
        by_cases hc8 : (s.2 - s.1 : Int) ≤ (m : Int)
        ·
          refine pl_take (.bool true) rfl (by kernel_rfl) (by kernel_rfl) (by kernel_rfl) (ev_dec (show _ = Result.ok (Next.value (Value.bool (decide ((s.2 - s.1 : Int) ≤ (m : Int))))) _ from by kernel_rfl) (hc8)) ?_
          refine pl_take (.bool true) rfl (by kernel_rfl) (by kernel_rfl) (by kernel_rfl) (by kernel_rfl) ?_
          refine pl_take (.bool true) rfl (by kernel_rfl) (by kernel_rfl) (by kernel_rfl) (by kernel_rfl) ?_
          refine pl_nil ?_
          refine qw_then ?_
          refine cw_clean [4] (ws' := [(4, .bool true)]) (by kernel_rfl) (fun L => ?_)
          refine cw_ret ?_
          refine qw_ret [.bool true] rfl ⟨(by kernel_rfl), trivial⟩ ?_
          exact ⟨congrArg (fun b => Ending.returned (Value.bool b)) (show Swath.spB s m = true by simp [Swath.spB, hc5, hc6, hc7, hc8]).symm, hE⟩
        ·
          refine pl_take (.bool false) rfl (by kernel_rfl) (by kernel_rfl) (by kernel_rfl) (ev_ndec (show _ = Result.ok (Next.value (Value.bool (decide ((s.2 - s.1 : Int) ≤ (m : Int))))) _ from by kernel_rfl) (hc8)) ?_
          refine pl_take (.bool false) rfl (by kernel_rfl) (by kernel_rfl) (by kernel_rfl) (by kernel_rfl) ?_
          refine pl_take (.bool false) rfl (by kernel_rfl) (by kernel_rfl) (by kernel_rfl) (by kernel_rfl) ?_
          refine pl_nil ?_
          refine qw_then ?_
          refine cw_clean [4] (ws' := [(4, .bool false)]) (by kernel_rfl) (fun L => ?_)
          refine cw_ret ?_
          refine qw_ret [.bool false] rfl ⟨(by kernel_rfl), trivial⟩ ?_
          exact ⟨congrArg (fun b => Ending.returned (Value.bool b)) (show Swath.spB s m = false by simp [Swath.spB, hc5, hc6, hc7, hc8]).symm, hE⟩
      ·
        refine pl_take (.bool false) rfl (by kernel_rfl) (by kernel_rfl) (by kernel_rfl) (ev_ndec (show _ = Result.ok (Next.value (Value.bool (decide ((s.2 : Int) ≤ (1000001 : Int))))) _ from by kernel_rfl) (hc7)) ?_
        refine pl_take (.bool false) rfl (by kernel_rfl) (by kernel_rfl) (by kernel_rfl) (by kernel_rfl) ?_
        refine pl_take (.bool false) rfl (by kernel_rfl) (by kernel_rfl) (by kernel_rfl) (by kernel_rfl) ?_
        refine pl_skip rfl (by kernel_rfl) (by kernel_rfl) (by kernel_rfl) ?_
        refine pl_skip rfl (by kernel_rfl) (by kernel_rfl) (by kernel_rfl) ?_
        refine pl_skip rfl (by kernel_rfl) (by kernel_rfl) (by kernel_rfl) ?_
        refine pl_skip rfl (by kernel_rfl) (by kernel_rfl) (by kernel_rfl) ?_
        refine pl_skip rfl (by kernel_rfl) (by kernel_rfl) (by kernel_rfl) ?_
        refine pl_skip rfl (by kernel_rfl) (by kernel_rfl) (by kernel_rfl) ?_
        refine pl_skip rfl (by kernel_rfl) (by kernel_rfl) (by kernel_rfl) ?_
        refine pl_take (.bool false) rfl (by kernel_rfl) (by kernel_rfl) (by kernel_rfl) (by kernel_rfl) ?_
        refine pl_take (.bool false) rfl (by kernel_rfl) (by kernel_rfl) (by kernel_rfl) (by kernel_rfl) ?_
        refine pl_nil ?_
        refine qw_then ?_
        refine cw_clean [4] (ws' := [(4, .bool false)]) (by kernel_rfl) (fun L => ?_)
        refine cw_ret ?_
        refine qw_ret [.bool false] rfl ⟨(by kernel_rfl), trivial⟩ ?_
        exact ⟨congrArg (fun b => Ending.returned (Value.bool b)) (show Swath.spB s m = false by simp [Swath.spB, hc5, hc6, hc7]).symm, hE⟩
    ·
      refine pl_take (.bool false) rfl (by kernel_rfl) (by kernel_rfl) (by kernel_rfl) (ev_ndec (show _ = Result.ok (Next.value (Value.bool (decide ((s.1 : Int) < (s.2 : Int))))) _ from by kernel_rfl) (hc6)) ?_
      refine pl_take (.bool false) rfl (by kernel_rfl) (by kernel_rfl) (by kernel_rfl) (by kernel_rfl) ?_
      refine pl_take (.bool false) rfl (by kernel_rfl) (by kernel_rfl) (by kernel_rfl) (by kernel_rfl) ?_
      refine pl_skip rfl (by kernel_rfl) (by kernel_rfl) (by kernel_rfl) ?_
      refine pl_skip rfl (by kernel_rfl) (by kernel_rfl) (by kernel_rfl) ?_
      refine pl_skip rfl (by kernel_rfl) (by kernel_rfl) (by kernel_rfl) ?_
      refine pl_take (.bool false) rfl (by kernel_rfl) (by kernel_rfl) (by kernel_rfl) (by kernel_rfl) ?_
      refine pl_take (.bool false) rfl (by kernel_rfl) (by kernel_rfl) (by kernel_rfl) (by kernel_rfl) ?_
      refine pl_skip rfl (by kernel_rfl) (by kernel_rfl) (by kernel_rfl) ?_
      refine pl_skip rfl (by kernel_rfl) (by kernel_rfl) (by kernel_rfl) ?_
      refine pl_skip rfl (by kernel_rfl) (by kernel_rfl) (by kernel_rfl) ?_
      refine pl_skip rfl (by kernel_rfl) (by kernel_rfl) (by kernel_rfl) ?_
      refine pl_skip rfl (by kernel_rfl) (by kernel_rfl) (by kernel_rfl) ?_
      refine pl_skip rfl (by kernel_rfl) (by kernel_rfl) (by kernel_rfl) ?_
      refine pl_skip rfl (by kernel_rfl) (by kernel_rfl) (by kernel_rfl) ?_
      refine pl_take (.bool false) rfl (by kernel_rfl) (by kernel_rfl) (by kernel_rfl) (by kernel_rfl) ?_
      refine pl_take (.bool false) rfl (by kernel_rfl) (by kernel_rfl) (by kernel_rfl) (by kernel_rfl) ?_
      refine pl_nil ?_
      refine qw_then ?_
      refine cw_clean [4] (ws' := [(4, .bool false)]) (by kernel_rfl) (fun L => ?_)
      refine cw_ret ?_
      refine qw_ret [.bool false] rfl ⟨(by kernel_rfl), trivial⟩ ?_
      exact ⟨congrArg (fun b => Ending.returned (Value.bool b)) (show Swath.spB s m = false by simp [Swath.spB, hc5, hc6]).symm, hE⟩
  ·
    refine pl_take (.bool false) rfl (by kernel_rfl) (by kernel_rfl) (by kernel_rfl) (ev_ndec (show _ = Result.ok (Next.value (Value.bool (decide ((0 : Int) ≤ (s.1 : Int))))) _ from by kernel_rfl) (hc5)) ?_
    refine pl_take (.bool false) rfl (by kernel_rfl) (by kernel_rfl) (by kernel_rfl) (by kernel_rfl) ?_
    refine pl_skip rfl (by kernel_rfl) (by kernel_rfl) (by kernel_rfl) ?_
    refine pl_skip rfl (by kernel_rfl) (by kernel_rfl) (by kernel_rfl) ?_
    refine pl_skip rfl (by kernel_rfl) (by kernel_rfl) (by kernel_rfl) ?_
    refine pl_skip rfl (by kernel_rfl) (by kernel_rfl) (by kernel_rfl) ?_
    refine pl_skip rfl (by kernel_rfl) (by kernel_rfl) (by kernel_rfl) ?_
    refine pl_take (.bool false) rfl (by kernel_rfl) (by kernel_rfl) (by kernel_rfl) (by kernel_rfl) ?_
    refine pl_take (.bool false) rfl (by kernel_rfl) (by kernel_rfl) (by kernel_rfl) (by kernel_rfl) ?_
    refine pl_skip rfl (by kernel_rfl) (by kernel_rfl) (by kernel_rfl) ?_
    refine pl_skip rfl (by kernel_rfl) (by kernel_rfl) (by kernel_rfl) ?_
    refine pl_skip rfl (by kernel_rfl) (by kernel_rfl) (by kernel_rfl) ?_
    refine pl_take (.bool false) rfl (by kernel_rfl) (by kernel_rfl) (by kernel_rfl) (by kernel_rfl) ?_
    refine pl_take (.bool false) rfl (by kernel_rfl) (by kernel_rfl) (by kernel_rfl) (by kernel_rfl) ?_
    refine pl_skip rfl (by kernel_rfl) (by kernel_rfl) (by kernel_rfl) ?_
    refine pl_skip rfl (by kernel_rfl) (by kernel_rfl) (by kernel_rfl) ?_
    refine pl_skip rfl (by kernel_rfl) (by kernel_rfl) (by kernel_rfl) ?_
    refine pl_skip rfl (by kernel_rfl) (by kernel_rfl) (by kernel_rfl) ?_
    refine pl_skip rfl (by kernel_rfl) (by kernel_rfl) (by kernel_rfl) ?_
    refine pl_skip rfl (by kernel_rfl) (by kernel_rfl) (by kernel_rfl) ?_
    refine pl_skip rfl (by kernel_rfl) (by kernel_rfl) (by kernel_rfl) ?_
    refine pl_take (.bool false) rfl (by kernel_rfl) (by kernel_rfl) (by kernel_rfl) (by kernel_rfl) ?_
    refine pl_take (.bool false) rfl (by kernel_rfl) (by kernel_rfl) (by kernel_rfl) (by kernel_rfl) ?_
    refine pl_nil ?_
    refine qw_then ?_
    refine cw_clean [4] (ws' := [(4, .bool false)]) (by kernel_rfl) (fun L => ?_)
    refine cw_ret ?_
    refine qw_ret [.bool false] rfl ⟨(by kernel_rfl), trivial⟩ ?_
    exact ⟨congrArg (fun b => Ending.returned (Value.bool b)) (show Swath.spB s m = false by simp [Swath.spB, hc5]).symm, hE⟩
theorem isSpell_r (s : Int × Int) (m : Int) {r : Bool} (w : World) (hr : Swath.spB s m = r) : Calls Try.prog 57 #[.agg #[.int .i64 s.1, .int .i64 s.2], .int .i64 m] w fun e w' => e = .returned (.bool r) ∧ Ext w w' := hr ▸ isSpell_c s m w
set_option maxRecDepth 1000000 in
set_option maxHeartbeats 4000000 in
theorem sValid_c (o : Orb) (s : Int × Int) (l : Int) (w : World) : Calls Try.prog 22 #[.agg #[.int .i64 o.p, .int .i64 o.f, .int .i64 o.lo, .int .i64 o.hi, .int .i64 o.nd, .int .i64 o.tn, .int .i64 o.sl], .agg #[.int .i64 s.1, .int .i64 s.2], .int .i64 l] w fun e w' => e = .returned (.bool (Swath.shB o s l)) ∧ Ext w w' := by
  refine calls_cw 17 [(2, .int .i64 (l : Int)), (1, .agg #[.int .i64 (s.1 : Int), .int .i64 (s.2 : Int)]), (0, .agg #[.int .i64 (o.p : Int), .int .i64 (o.f : Int), .int .i64 (o.lo : Int), .int .i64 (o.hi : Int), .int .i64 (o.nd : Int), .int .i64 (o.tn : Int), .int .i64 (o.sl : Int)])] Try.func22 rfl Try.ntmps22 (by kernel_rfl) (by kernel_rfl) (fun L => ?_)
  have hE : Ext w w := Ext.refl w
  refine cw_seq ?_
  refine cw_plain ?_
  refine pl_step rfl (by kernel_rfl) (by kernel_rfl) (by kernel_rfl) (sn_new (us := #[.int .i64 (o.p : Int), .int .i64 (o.f : Int), .int .i64 (o.lo : Int), .int .i64 (o.hi : Int), .int .i64 (o.nd : Int), .int .i64 (o.tn : Int), .int .i64 (o.sl : Int)]) (t := 24) (by kernel_rfl) ?_)
  intro O1 X2 hO hOs hb hbx
  have hzO1 := hO; have hyO1 := hOs; clear hO hOs
  have bO1_0 : BoxAt X2 O1 0 (.int .i64 (o.p : Int)) := hbx 0 _ rfl
  have bO1_1 : BoxAt X2 O1 1 (.int .i64 (o.f : Int)) := hbx 1 _ rfl
  have bO1_2 : BoxAt X2 O1 2 (.int .i64 (o.lo : Int)) := hbx 2 _ rfl
  have bO1_3 : BoxAt X2 O1 3 (.int .i64 (o.hi : Int)) := hbx 3 _ rfl
  have bO1_4 : BoxAt X2 O1 4 (.int .i64 (o.nd : Int)) := hbx 4 _ rfl
  have bO1_5 : BoxAt X2 O1 5 (.int .i64 (o.tn : Int)) := hbx 5 _ rfl
  have bO1_6 : BoxAt X2 O1 6 (.int .i64 (o.sl : Int)) := hbx 6 _ rfl
  clear hbx
  replace hE := hE.trans hb
  have hs3 := hb.size
  clear hb
  have lt4 := bO1_0.lt
  refine pl_step rfl (by kernel_rfl) (by kernel_rfl) (by kernel_rfl) (sn_new (us := #[.int .i64 (s.1 : Int), .int .i64 (s.2 : Int)]) (t := 26) (by kernel_rfl) ?_)
  intro O5 X6 hO hOs hb hbx
  have hzO5 := hO; have hyO5 := hOs; clear hO hOs
  have bO5_0 : BoxAt X6 O5 0 (.int .i64 (s.1 : Int)) := hbx 0 _ rfl
  have bO5_1 : BoxAt X6 O5 1 (.int .i64 (s.2 : Int)) := hbx 1 _ rfl
  clear hbx
  replace hE := hE.trans hb
  replace bO1_0 := BoxAt.ext hb bO1_0
  replace bO1_1 := BoxAt.ext hb bO1_1
  replace bO1_2 := BoxAt.ext hb bO1_2
  replace bO1_3 := BoxAt.ext hb bO1_3
  replace bO1_4 := BoxAt.ext hb bO1_4
  replace bO1_5 := BoxAt.ext hb bO1_5
  replace bO1_6 := BoxAt.ext hb bO1_6
  have hs7 := hb.size
  clear hb
  have lt8 := bO5_0.lt
  refine pl_take (.bool false) rfl (by kernel_rfl) (by kernel_rfl) (by kernel_rfl) (by kernel_rfl) ?_
  refine pl_nil ?_
  refine qw_then ?_
  refine cw_seq ?_
  have hX9 : Ext X6 X6 := Ext.refl _
  refine cw_plain ?_
  refine pl_take (.agg #[.int .i64 (o.p : Int), .int .i64 (o.f : Int), .int .i64 (o.lo : Int), .int .i64 (o.hi : Int), .int .i64 (o.nd : Int), .int .i64 (o.tn : Int), .int .i64 (o.sl : Int)]) rfl (by kernel_rfl) (by kernel_rfl) (by kernel_rfl) (ex_load rfl (by kernel_rfl) (ld24 (bO1_0.1) (bO1_1.1) (bO1_2.1) (bO1_3.1) (bO1_4.1) (bO1_5.1) (bO1_6.1))) ?_
  rcases Bool.eq_false_or_eq_true (Orb.ok o) with hb10 | hb10
  ·
    refine pl_step rfl (by kernel_rfl) (by kernel_rfl) (by kernel_rfl) (sn_call (f := 56) (args := #[.agg #[.int .i64 (o.p : Int), .int .i64 (o.f : Int), .int .i64 (o.lo : Int), .int .i64 (o.hi : Int), .int .i64 (o.nd : Int), .int .i64 (o.tn : Int), .int .i64 (o.sl : Int)]]) (by kernel_rfl) ((oValid_r (r := true) _ (hb10)).mono ?_))
    rintro e w11 ⟨rfl, hb⟩
    replace hE := hE.trans hb
    replace hX9 := hX9.trans hb
    have hs12 := hb.size
    clear hb
    refine ⟨_, rfl, ?_⟩
    refine pl_take (.bool true) rfl (by kernel_rfl) (by kernel_rfl) (by kernel_rfl) (by kernel_rfl) ?_
    refine pl_take (.agg #[.int .i64 (s.1 : Int), .int .i64 (s.2 : Int)]) rfl (by kernel_rfl) (by kernel_rfl) (by kernel_rfl) (ex_load rfl (by kernel_rfl) (ld26 ((BoxAt.ext hX9 bO5_0).1) ((BoxAt.ext hX9 bO5_1).1))) ?_
    rcases Bool.eq_false_or_eq_true (Swath.spB s 60) with hb13 | hb13
    ·
      refine pl_step rfl (by kernel_rfl) (by kernel_rfl) (by kernel_rfl) (sn_call (f := 57) (args := #[.agg #[.int .i64 (s.1 : Int), .int .i64 (s.2 : Int)], .int .i64 60]) (by kernel_rfl) ((isSpell_r (r := true) s 60 _ (hb13)).mono ?_))
      rintro e w14 ⟨rfl, hb⟩
      replace hE := hE.trans hb
      replace hX9 := hX9.trans hb
      have hs15 := hb.size
      clear hb
      refine ⟨_, rfl, ?_⟩
      refine pl_take (.bool true) rfl (by kernel_rfl) (by kernel_rfl) (by kernel_rfl) (by kernel_rfl) ?_
      refine pl_take (.bool true) rfl (by kernel_rfl) (by kernel_rfl) (by kernel_rfl) (by kernel_rfl) ?_
      refine pl_take (.int .i64 (l : Int)) rfl (by kernel_rfl) (by kernel_rfl) (by kernel_rfl) (by kernel_rfl) ?_
      rcases Bool.eq_false_or_eq_true (Globe.inB l (-4) 4) with hb16 | hb16
      ·
        have hq17 := Globe.inB_t.1 hb16
        refine pl_step rfl (by kernel_rfl) (by kernel_rfl) (by kernel_rfl) (sn_call (f := 43) (args := #[.int .i64 (l : Int), .int .i64 (-4 : Int), .int .i64 4]) (by kernel_rfl) ((swath_isIn_r (r := true) l (-4) 4 _ (hb16)).mono ?_))
        rintro e w18 ⟨rfl, hb⟩
        replace hE := hE.trans hb
        replace hX9 := hX9.trans hb
        have hs19 := hb.size
        clear hb
        refine ⟨_, rfl, ?_⟩
        refine pl_take (.bool true) rfl (by kernel_rfl) (by kernel_rfl) (by kernel_rfl) (by kernel_rfl) ?_
        refine pl_take (.bool true) rfl (by kernel_rfl) (by kernel_rfl) (by kernel_rfl) (by kernel_rfl) ?_
        refine pl_nil ?_
        refine qw_then ?_
        refine cw_clean [6] (ws' := [(6, .bool true)]) (by kernel_rfl) (fun L => ?_)
        refine cw_ret ?_
        refine qw_ret [.bool true] rfl ⟨(by kernel_rfl), trivial⟩ ?_
        exact ⟨congrArg (fun b => Ending.returned (Value.bool b)) (show Swath.shB o s l = true by simp [Swath.shB, hb10, hb13, hb16]).symm, hE⟩
      ·
        refine pl_step rfl (by kernel_rfl) (by kernel_rfl) (by kernel_rfl) (sn_call (f := 43) (args := #[.int .i64 (l : Int), .int .i64 (-4 : Int), .int .i64 4]) (by kernel_rfl) ((swath_isIn_r (r := false) l (-4) 4 _ (hb16)).mono ?_))
        rintro e w20 ⟨rfl, hb⟩
        replace hE := hE.trans hb
        replace hX9 := hX9.trans hb
        have hs21 := hb.size
        clear hb
        refine ⟨_, rfl, ?_⟩
        refine pl_take (.bool false) rfl (by kernel_rfl) (by kernel_rfl) (by kernel_rfl) (by kernel_rfl) ?_
        refine pl_take (.bool false) rfl (by kernel_rfl) (by kernel_rfl) (by kernel_rfl) (by kernel_rfl) ?_
        refine pl_nil ?_
        refine qw_then ?_
        refine cw_clean [6] (ws' := [(6, .bool false)]) (by kernel_rfl) (fun L => ?_)
        refine cw_ret ?_
        refine qw_ret [.bool false] rfl ⟨(by kernel_rfl), trivial⟩ ?_
        exact ⟨congrArg (fun b => Ending.returned (Value.bool b)) (show Swath.shB o s l = false by simp [Swath.shB, hb10, hb13, hb16]).symm, hE⟩
    ·
      refine pl_step rfl (by kernel_rfl) (by kernel_rfl) (by kernel_rfl) (sn_call (f := 57) (args := #[.agg #[.int .i64 (s.1 : Int), .int .i64 (s.2 : Int)], .int .i64 60]) (by kernel_rfl) ((isSpell_r (r := false) s 60 _ (hb13)).mono ?_))
      rintro e w22 ⟨rfl, hb⟩
      replace hE := hE.trans hb
      replace hX9 := hX9.trans hb
      have hs23 := hb.size
      clear hb
      refine ⟨_, rfl, ?_⟩
      refine pl_take (.bool false) rfl (by kernel_rfl) (by kernel_rfl) (by kernel_rfl) (by kernel_rfl) ?_
      refine pl_take (.bool false) rfl (by kernel_rfl) (by kernel_rfl) (by kernel_rfl) (by kernel_rfl) ?_
      refine pl_skip rfl (by kernel_rfl) (by kernel_rfl) (by kernel_rfl) ?_
      refine pl_skip rfl (by kernel_rfl) (by kernel_rfl) (by kernel_rfl) ?_
      refine pl_take (.bool false) rfl (by kernel_rfl) (by kernel_rfl) (by kernel_rfl) (by kernel_rfl) ?_
      refine pl_take (.bool false) rfl (by kernel_rfl) (by kernel_rfl) (by kernel_rfl) (by kernel_rfl) ?_
      refine pl_nil ?_
      refine qw_then ?_
      refine cw_clean [6] (ws' := [(6, .bool false)]) (by kernel_rfl) (fun L => ?_)
      refine cw_ret ?_
      refine qw_ret [.bool false] rfl ⟨(by kernel_rfl), trivial⟩ ?_
      exact ⟨congrArg (fun b => Ending.returned (Value.bool b)) (show Swath.shB o s l = false by simp [Swath.shB, hb10, hb13]).symm, hE⟩
  ·
    refine pl_step rfl (by kernel_rfl) (by kernel_rfl) (by kernel_rfl) (sn_call (f := 56) (args := #[.agg #[.int .i64 (o.p : Int), .int .i64 (o.f : Int), .int .i64 (o.lo : Int), .int .i64 (o.hi : Int), .int .i64 (o.nd : Int), .int .i64 (o.tn : Int), .int .i64 (o.sl : Int)]]) (by kernel_rfl) ((oValid_r (r := false) _ (hb10)).mono ?_))
    rintro e w24 ⟨rfl, hb⟩
    replace hE := hE.trans hb
    replace hX9 := hX9.trans hb
    have hs25 := hb.size
    clear hb
    refine ⟨_, rfl, ?_⟩
    refine pl_take (.bool false) rfl (by kernel_rfl) (by kernel_rfl) (by kernel_rfl) (by kernel_rfl) ?_
    refine pl_skip rfl (by kernel_rfl) (by kernel_rfl) (by kernel_rfl) ?_
    refine pl_skip rfl (by kernel_rfl) (by kernel_rfl) (by kernel_rfl) ?_
    refine pl_take (.bool false) rfl (by kernel_rfl) (by kernel_rfl) (by kernel_rfl) (by kernel_rfl) ?_
    refine pl_take (.bool false) rfl (by kernel_rfl) (by kernel_rfl) (by kernel_rfl) (by kernel_rfl) ?_
    refine pl_skip rfl (by kernel_rfl) (by kernel_rfl) (by kernel_rfl) ?_
    refine pl_skip rfl (by kernel_rfl) (by kernel_rfl) (by kernel_rfl) ?_
    refine pl_take (.bool false) rfl (by kernel_rfl) (by kernel_rfl) (by kernel_rfl) (by kernel_rfl) ?_
    refine pl_take (.bool false) rfl (by kernel_rfl) (by kernel_rfl) (by kernel_rfl) (by kernel_rfl) ?_
    refine pl_nil ?_
    refine qw_then ?_
    refine cw_clean [6] (ws' := [(6, .bool false)]) (by kernel_rfl) (fun L => ?_)
    refine cw_ret ?_
    refine qw_ret [.bool false] rfl ⟨(by kernel_rfl), trivial⟩ ?_
    exact ⟨congrArg (fun b => Ending.returned (Value.bool b)) (show Swath.shB o s l = false by simp [Swath.shB, hb10]).symm, hE⟩
theorem sValid_r (o : Orb) (s : Int × Int) (l : Int) {r : Bool} (w : World) (hr : Swath.shB o s l = r) : Calls Try.prog 22 #[.agg #[.int .i64 o.p, .int .i64 o.f, .int .i64 o.lo, .int .i64 o.hi, .int .i64 o.nd, .int .i64 o.tn, .int .i64 o.sl], .agg #[.int .i64 s.1, .int .i64 s.2], .int .i64 l] w fun e w' => e = .returned (.bool r) ∧ Ext w w' := hr ▸ sValid_c o s l w
set_option maxRecDepth 1000000 in
set_option maxHeartbeats 4000000 in
theorem delays_c (o : Orb) (w : World) : Calls Try.prog 81 #[.agg #[.int .i64 o.p, .int .i64 o.f, .int .i64 o.lo, .int .i64 o.hi, .int .i64 o.nd, .int .i64 o.tn, .int .i64 o.sl]] w fun e w' => ∃ B, e = .returned (.func (.func 100) #[] #[.pointer (some ⟨B, 0, none⟩)]) ∧ w.heap.size ≤ B ∧ w'.cell? ⟨B, 6, none⟩ = some (.int .i64 o.sl) ∧ Ext w w' := by
  refine calls_cw 4 [(0, .agg #[.int .i64 (o.p : Int), .int .i64 (o.f : Int), .int .i64 (o.lo : Int), .int .i64 (o.hi : Int), .int .i64 (o.nd : Int), .int .i64 (o.tn : Int), .int .i64 (o.sl : Int)])] Try.func81 rfl Try.ntmps81 (by kernel_rfl) (by kernel_rfl) (fun L => ?_)
  have hE : Ext w w := Ext.refl w
  refine cw_seq ?_
  refine cw_plain ?_
  refine pl_step rfl (by kernel_rfl) (by kernel_rfl) (by kernel_rfl) (sn_new (us := #[.int .i64 (o.p : Int), .int .i64 (o.f : Int), .int .i64 (o.lo : Int), .int .i64 (o.hi : Int), .int .i64 (o.nd : Int), .int .i64 (o.tn : Int), .int .i64 (o.sl : Int)]) (t := 24) (by kernel_rfl) ?_)
  intro O1 X2 hO hOs hb hbx
  have hzO1 := hO; have hyO1 := hOs; clear hO hOs
  have bO1_0 : BoxAt X2 O1 0 (.int .i64 (o.p : Int)) := hbx 0 _ rfl
  have bO1_1 : BoxAt X2 O1 1 (.int .i64 (o.f : Int)) := hbx 1 _ rfl
  have bO1_2 : BoxAt X2 O1 2 (.int .i64 (o.lo : Int)) := hbx 2 _ rfl
  have bO1_3 : BoxAt X2 O1 3 (.int .i64 (o.hi : Int)) := hbx 3 _ rfl
  have bO1_4 : BoxAt X2 O1 4 (.int .i64 (o.nd : Int)) := hbx 4 _ rfl
  have bO1_5 : BoxAt X2 O1 5 (.int .i64 (o.tn : Int)) := hbx 5 _ rfl
  have bO1_6 : BoxAt X2 O1 6 (.int .i64 (o.sl : Int)) := hbx 6 _ rfl
  clear hbx
  replace hE := hE.trans hb
  have hs3 := hb.size
  clear hb
  have lt4 := bO1_0.lt
  refine pl_take (Value.nilFunc) rfl (by kernel_rfl) (by kernel_rfl) (by kernel_rfl) (by kernel_rfl) ?_
  refine pl_nil ?_
  refine qw_then ?_
  refine cw_seq ?_
  have hX5 : Ext X2 X2 := Ext.refl _
  refine cw_plain ?_
  refine pl_take (.func (.func 100) #[] #[.pointer (some ⟨O1, 0, none⟩)]) rfl (by kernel_rfl) (by kernel_rfl) (by kernel_rfl) (by kernel_rfl) ?_
  refine pl_take (.func (.func 100) #[] #[.pointer (some ⟨O1, 0, none⟩)]) rfl (by kernel_rfl) (by kernel_rfl) (by kernel_rfl) (by kernel_rfl) ?_
  refine pl_nil ?_
  refine qw_then ?_
  refine cw_ret ?_
  refine qw_ret [.func (.func 100) #[] #[.pointer (some ⟨O1, 0, none⟩)]] rfl ⟨(by kernel_rfl), trivial⟩ ?_
  exact ⟨O1, rfl, (Nat.le_of_eq hzO1), bO1_6.1, hE⟩
set_option maxRecDepth 1000000 in
set_option maxHeartbeats 4000000 in
theorem shown_c (o : Orb) (s : Int × Int) (l d : Int) (w : World) : Calls Try.prog 51 #[.agg #[.int .i64 o.p, .int .i64 o.f, .int .i64 o.lo, .int .i64 o.hi, .int .i64 o.nd, .int .i64 o.tn, .int .i64 o.sl], .agg #[.int .i64 s.1, .int .i64 s.2], .int .i64 l, .int .i64 d] w fun e w' => ∃ B1 B2 B3 B4, e = .returned (.func (.func 82) #[] #[.pointer (some ⟨B1, 0, none⟩), .pointer (some ⟨B2, 0, none⟩), .pointer (some ⟨B3, 0, none⟩), .pointer (some ⟨B4, 0, none⟩)]) ∧ (w.heap.size ≤ B1 ∧ w.heap.size ≤ B2 ∧ w.heap.size ≤ B3 ∧ w.heap.size ≤ B4) ∧ ShownAt w' B1 B2 B3 B4 o s l d ∧ Ext w w' := by
  refine calls_cw 10 [(3, .int .i64 (d : Int)), (2, .int .i64 (l : Int)), (1, .agg #[.int .i64 (s.1 : Int), .int .i64 (s.2 : Int)]), (0, .agg #[.int .i64 (o.p : Int), .int .i64 (o.f : Int), .int .i64 (o.lo : Int), .int .i64 (o.hi : Int), .int .i64 (o.nd : Int), .int .i64 (o.tn : Int), .int .i64 (o.sl : Int)])] Try.func51 rfl Try.ntmps51 (by kernel_rfl) (by kernel_rfl) (fun L => ?_)
  have hE : Ext w w := Ext.refl w
  refine cw_seq ?_
  refine cw_plain ?_
  refine pl_step rfl (by kernel_rfl) (by kernel_rfl) (by kernel_rfl) (sn_new (us := #[.int .i64 (o.p : Int), .int .i64 (o.f : Int), .int .i64 (o.lo : Int), .int .i64 (o.hi : Int), .int .i64 (o.nd : Int), .int .i64 (o.tn : Int), .int .i64 (o.sl : Int)]) (t := 24) (by kernel_rfl) ?_)
  intro O1 X2 hO hOs hb hbx
  have hzO1 := hO; have hyO1 := hOs; clear hO hOs
  have bO1_0 : BoxAt X2 O1 0 (.int .i64 (o.p : Int)) := hbx 0 _ rfl
  have bO1_1 : BoxAt X2 O1 1 (.int .i64 (o.f : Int)) := hbx 1 _ rfl
  have bO1_2 : BoxAt X2 O1 2 (.int .i64 (o.lo : Int)) := hbx 2 _ rfl
  have bO1_3 : BoxAt X2 O1 3 (.int .i64 (o.hi : Int)) := hbx 3 _ rfl
  have bO1_4 : BoxAt X2 O1 4 (.int .i64 (o.nd : Int)) := hbx 4 _ rfl
  have bO1_5 : BoxAt X2 O1 5 (.int .i64 (o.tn : Int)) := hbx 5 _ rfl
  have bO1_6 : BoxAt X2 O1 6 (.int .i64 (o.sl : Int)) := hbx 6 _ rfl
  clear hbx
  replace hE := hE.trans hb
  have hs3 := hb.size
  clear hb
  have lt4 := bO1_0.lt
  refine pl_step rfl (by kernel_rfl) (by kernel_rfl) (by kernel_rfl) (sn_new (us := #[.int .i64 (s.1 : Int), .int .i64 (s.2 : Int)]) (t := 26) (by kernel_rfl) ?_)
  intro O5 X6 hO hOs hb hbx
  have hzO5 := hO; have hyO5 := hOs; clear hO hOs
  have bO5_0 : BoxAt X6 O5 0 (.int .i64 (s.1 : Int)) := hbx 0 _ rfl
  have bO5_1 : BoxAt X6 O5 1 (.int .i64 (s.2 : Int)) := hbx 1 _ rfl
  clear hbx
  replace hE := hE.trans hb
  replace bO1_0 := BoxAt.ext hb bO1_0
  replace bO1_1 := BoxAt.ext hb bO1_1
  replace bO1_2 := BoxAt.ext hb bO1_2
  replace bO1_3 := BoxAt.ext hb bO1_3
  replace bO1_4 := BoxAt.ext hb bO1_4
  replace bO1_5 := BoxAt.ext hb bO1_5
  replace bO1_6 := BoxAt.ext hb bO1_6
  have hs7 := hb.size
  clear hb
  have lt8 := bO5_0.lt
  refine pl_step rfl (by kernel_rfl) (by kernel_rfl) (by kernel_rfl) (sn_new (us := #[.int .i64 (l : Int)]) (t := 3) (by kernel_rfl) ?_)
  intro O9 X10 hO hOs hb hbx
  have hzO9 := hO; have hyO9 := hOs; clear hO hOs
  have bO9_0 : BoxAt X10 O9 0 (.int .i64 (l : Int)) := hbx 0 _ rfl
  clear hbx
  replace hE := hE.trans hb
  replace bO1_0 := BoxAt.ext hb bO1_0
  replace bO1_1 := BoxAt.ext hb bO1_1
  replace bO1_2 := BoxAt.ext hb bO1_2
  replace bO1_3 := BoxAt.ext hb bO1_3
  replace bO1_4 := BoxAt.ext hb bO1_4
  replace bO1_5 := BoxAt.ext hb bO1_5
  replace bO1_6 := BoxAt.ext hb bO1_6
  replace bO5_0 := BoxAt.ext hb bO5_0
  replace bO5_1 := BoxAt.ext hb bO5_1
  have hs11 := hb.size
  clear hb
  have lt12 := bO9_0.lt
  refine pl_step rfl (by kernel_rfl) (by kernel_rfl) (by kernel_rfl) (sn_new (us := #[.int .i64 (d : Int)]) (t := 3) (by kernel_rfl) ?_)
  intro O13 X14 hO hOs hb hbx
  have hzO13 := hO; have hyO13 := hOs; clear hO hOs
  have bO13_0 : BoxAt X14 O13 0 (.int .i64 (d : Int)) := hbx 0 _ rfl
  clear hbx
  replace hE := hE.trans hb
  replace bO1_0 := BoxAt.ext hb bO1_0
  replace bO1_1 := BoxAt.ext hb bO1_1
  replace bO1_2 := BoxAt.ext hb bO1_2
  replace bO1_3 := BoxAt.ext hb bO1_3
  replace bO1_4 := BoxAt.ext hb bO1_4
  replace bO1_5 := BoxAt.ext hb bO1_5
  replace bO1_6 := BoxAt.ext hb bO1_6
  replace bO5_0 := BoxAt.ext hb bO5_0
  replace bO5_1 := BoxAt.ext hb bO5_1
  replace bO9_0 := BoxAt.ext hb bO9_0
  have hs15 := hb.size
  clear hb
  have lt16 := bO13_0.lt
  refine pl_take (Value.nilFunc) rfl (by kernel_rfl) (by kernel_rfl) (by kernel_rfl) (by kernel_rfl) ?_
  refine pl_nil ?_
  refine qw_then ?_
  refine cw_seq ?_
  have hX17 : Ext X14 X14 := Ext.refl _
  refine cw_plain ?_
  refine pl_take (.func (.func 82) #[] #[.pointer (some ⟨O5, 0, none⟩), .pointer (some ⟨O1, 0, none⟩), .pointer (some ⟨O13, 0, none⟩), .pointer (some ⟨O9, 0, none⟩)]) rfl (by kernel_rfl) (by kernel_rfl) (by kernel_rfl) (by kernel_rfl) ?_
  refine pl_take (.func (.func 82) #[] #[.pointer (some ⟨O5, 0, none⟩), .pointer (some ⟨O1, 0, none⟩), .pointer (some ⟨O13, 0, none⟩), .pointer (some ⟨O9, 0, none⟩)]) rfl (by kernel_rfl) (by kernel_rfl) (by kernel_rfl) (by kernel_rfl) ?_
  refine pl_nil ?_
  refine qw_then ?_
  refine cw_ret ?_
  refine qw_ret [.func (.func 82) #[] #[.pointer (some ⟨O5, 0, none⟩), .pointer (some ⟨O1, 0, none⟩), .pointer (some ⟨O13, 0, none⟩), .pointer (some ⟨O9, 0, none⟩)]] rfl ⟨(by kernel_rfl), trivial⟩ ?_
  exact ⟨O5, O1, O13, O9, rfl, ⟨(Nat.le_trans hs3 (Nat.le_of_eq hzO5)), (Nat.le_of_eq hzO1), (Nat.le_trans (Nat.le_trans hs3 (Nat.le_trans hs7 hs11)) (Nat.le_of_eq hzO13)), (Nat.le_trans (Nat.le_trans hs3 hs7) (Nat.le_of_eq hzO9))⟩, ⟨bO5_0.1, bO5_1.1, bO1_0.1, bO1_1.1, bO1_2.1, bO1_3.1, bO1_4.1, bO1_5.1, bO1_6.1, bO13_0.1, bO9_0.1⟩, hE⟩

end Go.Proofs.Ytdjjkhefdalokaa

/- What a range over a function wants, in the form in which this seat uses it. -/
namespace Go.Proofs.Ytdjjkhefdalokaa
open Go.RowKit

theorem Ext.others {a b : World} (h : Ext a b) : KeepsOthers a b := ⟨h.size, fun k _ ho _ => (Below.block h k (Array.getElem?_eq_some_iff.1 ho).1).trans ho⟩

theorem wide_depth {n : Nat} : Fence.wide.depth.isSome = true → 1 ≤ n := fun h => by simp [Fence.wide] at h

/-- What lies below n₀ lies as it lay, but for the blocks of X (which a round may write). -/
structure KeepX (n₀ : Nat) (X : Nat → Prop) (A B : World) : Prop where
  size : A.heap.size ≤ B.heap.size
  block : ∀ k, k < n₀ → ¬ X k → B.heap[k]? = A.heap[k]?
theorem KeepX.refl (n₀ : Nat) (X : Nat → Prop) (A : World) : KeepX n₀ X A A := ⟨Nat.le_refl _, fun _ _ _ => rfl⟩
theorem KeepX.trans {n₀ : Nat} {X : Nat → Prop} {A B C : World} (h : KeepX n₀ X A B) (k : KeepX n₀ X B C) : KeepX n₀ X A C :=
  ⟨Nat.le_trans h.size k.size, fun i hi hx => (k.block i hi hx).trans (h.block i hi hx)⟩
theorem KeepX.of_below {n₀ : Nat} {X : Nat → Prop} {A B : World} (h : Below n₀ A B) : KeepX n₀ X A B := ⟨h.size, fun k hk _ => h.block k hk⟩
theorem KeepX.of_ext {n₀ : Nat} {X : Nat → Prop} {A B : World} (h : Ext A B) (hn : n₀ ≤ A.heap.size) : KeepX n₀ X A B := KeepX.of_below (Below.mono h hn)
theorem KeepX.cell {n₀ : Nat} {X : Nat → Prop} {A B : World} (h : KeepX n₀ X A B) {b o : Nat} (hb : b < n₀) (hx : ¬ X b) : B.cell? ⟨b, o, none⟩ = A.cell? ⟨b, o, none⟩ := World.cell?_of_block (w := A) (h.block b hb hx)
theorem KeepX.setCell {n₀ : Nat} {X : Nat → Prop} (A : World) {p : Addr} (hp : X p.block) (u : Value) : KeepX n₀ X A (A.setCell p u) :=
  ⟨by simp [World.setCell], fun k _ hx => Below.heap_setCell _ _ _ _ (fun e => hx (e ▸ hp))⟩
theorem KeepX.putObj {n₀ : Nat} {X : Nat → Prop} {w : World} (hn : n₀ ≤ w.heap.size) (W : World) (l : Nat) (o o' : Obj) (hl : w.heap.size ≤ l) (h : W.heap[l]? = some o) (hc : o.isCells = false) (hw : o.isWalk = false) : KeepX n₀ X W (W.putObj l o') :=
  KeepX.of_below (belowK_b hn W l o o' hl h hc hw)

/-- A cell behind the shutting of a loop's block of deferred calls. -/
theorem cell_shut {W : World} {D : Nat} (hK : W.heap[D]? = some (.deferred (some []))) {a : Addr} {v : Value} (h : W.cell? a = some v) : (W.putObj D (.deferred none)).cell? a = some v :=
  cell_kept h (grownBy_putObj' _ D (.deferred none)) (fun r e => by cases e; exact ⟨_, hK, rfl⟩)
theorem Ext.shut {w W : World} {D : Nat} (h : Ext w W) (hD : w.heap.size ≤ D) (hK : W.heap[D]? = some (.deferred (some []))) : Ext w (W.putObj D (.deferred none)) :=
  Below.trans h (belowK_b (w := w) (Nat.le_refl _) W D _ _ hD hK rfl rfl)

end Go.Proofs.Ytdjjkhefdalokaa

/- Writing into a block of one's own; a valid area that is being made. -/
namespace Go.Proofs.Ytdjjkhefdalokaa
open Go.RowKit

/-- 2 to the n. -/
def p2 (n : Nat) : Nat := 2 ^ n
theorem p2_shl {n : Nat} (h : n ≤ 48) : IntKind.i64.wrap (2 ^ n) = (p2 n : Int) ∧ 1 ≤ p2 n ∧ p2 n ≤ 281474976710656 := by
  have h1 : 2 ^ n ≤ 2 ^ 48 := Nat.pow_le_pow_right (by decide) h
  have h0 := Nat.two_pow_pos n
  have e : ((2 : Int) ^ n) = ((2 ^ n : Nat) : Int) := by simp
  unfold p2
  refine ⟨?_, h0, h1⟩
  rw [e, IntKind.wrap_i64]
  omega
theorem grown_set {w w' : World} {p : Addr} {v : Value} {B : Nat} (hp : p.block = B) (h : Below (w.setCell p v).heap.size (w.setCell p v) w') : w.grownBy w' (some B) :=
  ⟨h.os, h.tape, h.output, Nat.le_trans (by rw [World.size_setCell]; exact Nat.le_refl _) h.size, fun k hk hne => (h.block k (by rw [World.size_setCell]; exact hk)).trans (Below.heap_setCell _ _ _ k (fun e => hne (by rw [e, hp])))⟩
theorem grown_refl (w : World) (B : Nat) : w.grownBy w (some B) := ⟨rfl, rfl, rfl, Nat.le_refl _, fun _ _ _ => rfl⟩
theorem grown_trans {a b c : World} {r : Option Nat} (h : a.grownBy b r) (k : b.grownBy c r) : a.grownBy c r :=
  ⟨k.os.trans h.os, k.tape.trans h.tape, k.output.trans h.output, Nat.le_trans h.size k.size, fun i hi hne => (k.block i (Nat.lt_of_lt_of_le hi h.size) hne).trans (h.block i hi hne)⟩
/-- What lay below the block that was written reads as it did. -/
theorem Ext.grown {w0 w w' : World} {B : Nat} (h : Ext w0 w) (hg : w.grownBy w' (some B)) (hB : w0.heap.size ≤ B) : Ext w0 w' := Below.grown h hg h.size (fun k e => by cases e; exact hB)
theorem grown_cell {w w' : World} {B : Nat} (hg : w.grownBy w' (some B)) {a : Addr} {v : Value} (h : w.cell? a = some v) (hne : a.block ≠ B) : w'.cell? a = some v := hg.cell h (fun e => hne (by simpa using e))
theorem grown_free {w w' : World} {B : Nat} (hg : w.grownBy w' (some B)) {a : Addr} {v : Value} (h : w.cell? a = some v) (hf : w.frozen? a = false) (hne : a.block ≠ B) : w'.frozen? a = false :=
  (World.frozen?_of_block (hg.block a.block (World.block_lt_of_cell? w a h) (fun e => hne (by simpa using e)))).trans hf
theorem BoxAt.grown {w w' : World} {B : Nat} (hg : w.grownBy w' (some B)) {b o : Nat} {v : Value} (h : BoxAt w b o v) (hne : b ≠ B) : BoxAt w' b o v := ⟨grown_cell hg h.1 hne, grown_free hg h.1 h.2 hne⟩
/-- A fresh valid area. -/
def RetM (w : World) (e : Ending) (w' : World) : Prop :=
  ∃ (B : Nat) (L : List Int), e = .returned (.agg #[.slice (some ⟨B, 0, none⟩) 24 24]) ∧ w.heap.size ≤ B ∧ Globe.validL L = true ∧ RowsAt w' B L ∧ VA w' B 0 L ∧ Ext w w'
/-- In the midst of Made: the area's own block B, its box O. -/
def Mk (w : World) (O B : Nat) (wr : World) : Prop :=
  (∃ L, Globe.validL L = true ∧ RowsAt wr B L) ∧ wr.cell? ⟨O, 0, none⟩ = some (.slice (some ⟨B, 0, none⟩) 24 24) ∧ BoxAt wr w.heap.size 0 (.slice none 0 0) ∧ Ext w wr
theorem Mk.ext {w w1 w2 : World} {O B : Nat} (h : Mk w O B w1) (hE : Ext w1 w2) : Mk w O B w2 :=
  ⟨by obtain ⟨L, hv, hr⟩ := h.1; exact ⟨L, hv, hr.ext hE⟩, hE.cell h.2.1, BoxAt.ext hE h.2.2.1, h.2.2.2.trans hE⟩

end Go.Proofs.Ytdjjkhefdalokaa
