/- Part 2 of what the proof of SwathSuns stands on. -/
import Derived.Test.YtdjjkhefdalokaaV1SwathSuns
/- Contracts of package orbit: around, Valid. -/
namespace Go.Proofs.Ytdjjkhefdalokaa
open Go.RowKit

set_option maxRecDepth 1000000 in
set_option maxHeartbeats 4000000 in
theorem around_c (n c : Int) (w : World) (h0 : 0 < c) (hc : c ≤ 48000) : Calls Try.prog 104 #[.int .i64 n, .int .i64 c] w fun e w' => e = .returned (.int .i64 (n % c)) ∧ Ext w w' := by
  have ht := Orb.tmod_bd (n := n) h0
  refine calls_cw 12 [(1, .int .i64 (c : Int)), (0, .int .i64 (n : Int))] Try.func104 rfl Try.ntmps104 (by kernel_rfl) (by kernel_rfl) (fun L => ?_)
  have hE : Ext w w := Ext.refl w
  refine cw_seq ?_
  refine cw_plain ?_
  refine pl_take (.int .i64 0) rfl (by kernel_rfl) (by kernel_rfl) (by kernel_rfl) (by kernel_rfl) ?_
  refine pl_nil ?_
  refine qw_then ?_
  refine cw_seq ?_
  refine cw_plain ?_
  refine pl_take (.int .i64 (n : Int)) rfl (by kernel_rfl) (by kernel_rfl) (by kernel_rfl) (by kernel_rfl) ?_
  refine pl_take (.int .i64 (c : Int)) rfl (by kernel_rfl) (by kernel_rfl) (by kernel_rfl) (by kernel_rfl) ?_
  refine pl_take (.int .i64 ((n : Int).tmod c : Int)) rfl (by kernel_rfl) (by kernel_rfl) (by kernel_rfl) (ex_bin (a := n) (b := c) rfl (by kernel_rfl) (by kernel_rfl) (bin_tmod (by omega))) ?_
  refine pl_take (.int .i64 (c : Int)) rfl (by kernel_rfl) (by kernel_rfl) (by kernel_rfl) (by kernel_rfl) ?_
  refine pl_take (.int .i64 (((n : Int).tmod c) + c : Int)) rfl (by kernel_rfl) (by kernel_rfl) (by kernel_rfl) (ev_wrap (by kernel_rfl) (by omega) (by omega)) ?_
  refine pl_take (.int .i64 (c : Int)) rfl (by kernel_rfl) (by kernel_rfl) (by kernel_rfl) (by kernel_rfl) ?_
  refine pl_take (.int .i64 (n % c : Int)) rfl (by kernel_rfl) (by kernel_rfl) (by kernel_rfl) (ev_int (ex_bin (a := n.tmod c + c) (b := c) rfl (by kernel_rfl) (by kernel_rfl) (bin_tmod (by omega))) (Orb.around_eq h0)) ?_
  refine pl_take (.int .i64 (n % c : Int)) rfl (by kernel_rfl) (by kernel_rfl) (by kernel_rfl) (by kernel_rfl) ?_
  refine pl_nil ?_
  refine qw_then ?_
  refine cw_ret ?_
  refine qw_ret [.int .i64 (n % c : Int)] rfl ⟨(by kernel_rfl), trivial⟩ ?_
  exact ⟨rfl, hE⟩
set_option maxRecDepth 1000000 in
set_option maxHeartbeats 4000000 in
theorem oValid_c (o : Orb) (w : World) : Calls Try.prog 56 #[.agg #[.int .i64 o.p, .int .i64 o.f, .int .i64 o.lo, .int .i64 o.hi, .int .i64 o.nd, .int .i64 o.tn, .int .i64 o.sl]] w fun e w' => e = .returned (.bool (Orb.ok o)) ∧ Ext w w' := by
  refine calls_cw 56 [(0, .agg #[.int .i64 (o.p : Int), .int .i64 (o.f : Int), .int .i64 (o.lo : Int), .int .i64 (o.hi : Int), .int .i64 (o.nd : Int), .int .i64 (o.tn : Int), .int .i64 (o.sl : Int)])] Try.func56 rfl Try.ntmps56 (by kernel_rfl) (by kernel_rfl) (fun L => ?_)
  have hE : Ext w w := Ext.refl w
  refine cw_seq ?_
  refine cw_plain ?_
  refine pl_step rfl (by kernel_rfl) (by kernel_rfl) (by kernel_rfl) (sn_new (us := #[.int .i64 (o.p : Int), .int .i64 (o.f : Int), .int .i64 (o.lo : Int), .int .i64 (o.hi : Int), .int .i64 (o.nd : Int), .int .i64 (o.tn : Int), .int .i64 (o.sl : Int)]) (t := 24) (by kernel_rfl) ?_)
  intro O1 X2 hO hOs hb hbx
  have hzO1 := hO; have hyO1 := hOs; clear hO hOs
  have bO1_0 : BoxAt X2 O1 0 (.int .i64 (o.p : Int)) := hbx 0 _ rfl
  have bO1_1 : BoxAt X2 O1 1 (.int .i64 (o.f : Int)) := hbx 1 _ rfl
  have bO1_2 : BoxAt X2 O1 2 (.int .i64 (o.lo : Int)) := hbx 2 _ rfl
  have bO1_3 : BoxAt X2 O1 3 (.int .i64 (o.hi : Int)) := hbx 3 _ rfl
  have bO1_4 : BoxAt X2 O1 4 (.int .i64 (o.nd : Int)) := hbx 4 _ rfl
  have bO1_5 : BoxAt X2 O1 5 (.int .i64 (o.tn : Int)) := hbx 5 _ rfl
  have bO1_6 : BoxAt X2 O1 6 (.int .i64 (o.sl : Int)) := hbx 6 _ rfl
  clear hbx
  replace hE := hE.trans hb
  have hs3 := hb.size
  clear hb
  have lt4 := bO1_0.lt
  refine pl_take (.bool false) rfl (by kernel_rfl) (by kernel_rfl) (by kernel_rfl) (by kernel_rfl) ?_
  refine pl_nil ?_
  refine qw_then ?_
  refine cw_seq ?_
  refine cw_plain ?_
  refine pl_take (.pointer (some ⟨O1, 0, none⟩)) rfl (by kernel_rfl) (by kernel_rfl) (by kernel_rfl) (by kernel_rfl) ?_
  refine pl_take (.int .i64 (o.p : Int)) rfl (by kernel_rfl) (by kernel_rfl) (by kernel_rfl) (ex_load rfl (by kernel_rfl) (ld3 (bO1_0.1))) ?_
  rcases Bool.eq_false_or_eq_true (Globe.inB o.p 20 2000) with hb5 | hb5
  ·
    have hq6 := Globe.inB_t.1 hb5
    refine pl_step rfl (by kernel_rfl) (by kernel_rfl) (by kernel_rfl) (sn_call (f := 87) (args := #[.int .i64 (o.p : Int), .int .i64 20, .int .i64 2000]) (by kernel_rfl) ((orbit_in_r (r := true) o.p 20 2000 _ (hb5)).mono ?_))
    rintro e w7 ⟨rfl, hb⟩
    replace hE := hE.trans hb
    replace bO1_0 := BoxAt.ext hb bO1_0
    replace bO1_1 := BoxAt.ext hb bO1_1
    replace bO1_2 := BoxAt.ext hb bO1_2
    replace bO1_3 := BoxAt.ext hb bO1_3
    replace bO1_4 := BoxAt.ext hb bO1_4
    replace bO1_5 := BoxAt.ext hb bO1_5
    replace bO1_6 := BoxAt.ext hb bO1_6
    have hs8 := hb.size
    clear hb
    refine ⟨_, rfl, ?_⟩
    refine pl_take (.bool true) rfl (by kernel_rfl) (by kernel_rfl) (by kernel_rfl) (by kernel_rfl) ?_
    refine pl_take (.pointer (some ⟨O1, 0, none⟩)) rfl (by kernel_rfl) (by kernel_rfl) (by kernel_rfl) (by kernel_rfl) ?_
    refine pl_take (.int .i64 (o.p : Int)) rfl (by kernel_rfl) (by kernel_rfl) (by kernel_rfl) (ex_load rfl (by kernel_rfl) (ld3 (bO1_0.1))) ?_
    refine pl_take (.int .i64 ((o.p : Int).tmod 2 : Int)) rfl (by kernel_rfl) (by kernel_rfl) (by kernel_rfl) (ex_bin (a := o.p) (b := 2) rfl (by kernel_rfl) (by kernel_rfl) (bin_tmod (by omega))) ?_
    by_cases hc9 : ((o.p : Int).tmod 2 : Int) = (0 : Int)
    ·
      refine pl_take (.bool true) rfl (by kernel_rfl) (by kernel_rfl) (by kernel_rfl) (ev_eq (show _ = Result.ok (Next.value (Value.bool (((o.p : Int).tmod 2 : Int) == (0 : Int)))) _ from by kernel_rfl) (hc9)) ?_
      refine pl_take (.bool true) rfl (by kernel_rfl) (by kernel_rfl) (by kernel_rfl) (by kernel_rfl) ?_
      refine pl_take (.bool true) rfl (by kernel_rfl) (by kernel_rfl) (by kernel_rfl) (by kernel_rfl) ?_
      refine pl_take (.pointer (some ⟨O1, 1, none⟩)) rfl (by kernel_rfl) (by kernel_rfl) (by kernel_rfl) (by kernel_rfl) ?_
      refine pl_take (.int .i64 (o.f : Int)) rfl (by kernel_rfl) (by kernel_rfl) (by kernel_rfl) (ex_load rfl (by kernel_rfl) (ld3 (bO1_1.1))) ?_
      refine pl_take (.pointer (some ⟨O1, 0, none⟩)) rfl (by kernel_rfl) (by kernel_rfl) (by kernel_rfl) (by kernel_rfl) ?_
      refine pl_take (.int .i64 (o.p : Int)) rfl (by kernel_rfl) (by kernel_rfl) (by kernel_rfl) (ex_load rfl (by kernel_rfl) (ld3 (bO1_0.1))) ?_
      refine pl_take (.int .i64 (o.p - 1 : Int)) rfl (by kernel_rfl) (by kernel_rfl) (by kernel_rfl) (ev_wrap (by kernel_rfl) (by omega) (by omega)) ?_
      rcases Bool.eq_false_or_eq_true (Globe.inB o.f 0 (o.p - 1)) with hb10 | hb10
      ·
        have hq11 := Globe.inB_t.1 hb10
        refine pl_step rfl (by kernel_rfl) (by kernel_rfl) (by kernel_rfl) (sn_call (f := 87) (args := #[.int .i64 (o.f : Int), .int .i64 0, .int .i64 (o.p - 1 : Int)]) (by kernel_rfl) ((orbit_in_r (r := true) o.f 0 (o.p - 1) _ (hb10)).mono ?_))
        rintro e w12 ⟨rfl, hb⟩
        replace hE := hE.trans hb
        replace bO1_0 := BoxAt.ext hb bO1_0
        replace bO1_1 := BoxAt.ext hb bO1_1
        replace bO1_2 := BoxAt.ext hb bO1_2
        replace bO1_3 := BoxAt.ext hb bO1_3
        replace bO1_4 := BoxAt.ext hb bO1_4
        replace bO1_5 := BoxAt.ext hb bO1_5
        replace bO1_6 := BoxAt.ext hb bO1_6
        have hs13 := hb.size
        clear hb
        refine ⟨_, rfl, ?_⟩
        refine pl_take (.bool true) rfl (by kernel_rfl) (by kernel_rfl) (by kernel_rfl) (by kernel_rfl) ?_
        refine pl_take (.bool true) rfl (by kernel_rfl) (by kernel_rfl) (by kernel_rfl) (by kernel_rfl) ?_
        refine pl_nil ?_
        refine qw_then ?_
        refine cw_clean [1, 3] (ws' := [(1, .pointer (some ⟨O1, 0, none⟩)), (3, .bool true)]) (by kernel_rfl) (fun L => ?_)
        refine cw_seq ?_
        refine cw_plain ?_
        refine pl_take (.pointer (some ⟨O1, 2, none⟩)) rfl (by kernel_rfl) (by kernel_rfl) (by kernel_rfl) (by kernel_rfl) ?_
        refine pl_take (.int .i64 (o.lo : Int)) rfl (by kernel_rfl) (by kernel_rfl) (by kernel_rfl) (ex_load rfl (by kernel_rfl) (ld3 (bO1_2.1))) ?_
        rcases Bool.eq_false_or_eq_true (Globe.inB o.lo 0 23999) with hb14 | hb14
        ·
          have hq15 := Globe.inB_t.1 hb14
          refine pl_step rfl (by kernel_rfl) (by kernel_rfl) (by kernel_rfl) (sn_call (f := 87) (args := #[.int .i64 (o.lo : Int), .int .i64 0, .int .i64 23999]) (by kernel_rfl) ((orbit_in_r (r := true) o.lo 0 23999 _ (hb14)).mono ?_))
          rintro e w16 ⟨rfl, hb⟩
          replace hE := hE.trans hb
          replace bO1_0 := BoxAt.ext hb bO1_0
          replace bO1_1 := BoxAt.ext hb bO1_1
          replace bO1_2 := BoxAt.ext hb bO1_2
          replace bO1_3 := BoxAt.ext hb bO1_3
          replace bO1_4 := BoxAt.ext hb bO1_4
          replace bO1_5 := BoxAt.ext hb bO1_5
          replace bO1_6 := BoxAt.ext hb bO1_6
          have hs17 := hb.size
          clear hb
          refine ⟨_, rfl, ?_⟩
          refine pl_take (.bool true) rfl (by kernel_rfl) (by kernel_rfl) (by kernel_rfl) (by kernel_rfl) ?_
          refine pl_take (.pointer (some ⟨O1, 3, none⟩)) rfl (by kernel_rfl) (by kernel_rfl) (by kernel_rfl) (by kernel_rfl) ?_
          refine pl_take (.int .i64 (o.hi : Int)) rfl (by kernel_rfl) (by kernel_rfl) (by kernel_rfl) (ex_load rfl (by kernel_rfl) (ld3 (bO1_3.1))) ?_
          rcases Bool.eq_false_or_eq_true (Globe.inB o.hi 0 23999) with hb18 | hb18
          ·
            have hq19 := Globe.inB_t.1 hb18
            refine pl_step rfl (by kernel_rfl) (by kernel_rfl) (by kernel_rfl) (sn_call (f := 87) (args := #[.int .i64 (o.hi : Int), .int .i64 0, .int .i64 23999]) (by kernel_rfl) ((orbit_in_r (r := true) o.hi 0 23999 _ (hb18)).mono ?_))
            rintro e w20 ⟨rfl, hb⟩
            replace hE := hE.trans hb
            replace bO1_0 := BoxAt.ext hb bO1_0
            replace bO1_1 := BoxAt.ext hb bO1_1
            replace bO1_2 := BoxAt.ext hb bO1_2
            replace bO1_3 := BoxAt.ext hb bO1_3
            replace bO1_4 := BoxAt.ext hb bO1_4
            replace bO1_5 := BoxAt.ext hb bO1_5
            replace bO1_6 := BoxAt.ext hb bO1_6
            have hs21 := hb.size
            clear hb
            refine ⟨_, rfl, ?_⟩
            refine pl_take (.bool true) rfl (by kernel_rfl) (by kernel_rfl) (by kernel_rfl) (by kernel_rfl) ?_
            refine pl_take (.bool true) rfl (by kernel_rfl) (by kernel_rfl) (by kernel_rfl) (by kernel_rfl) ?_
            refine pl_take (.pointer (some ⟨O1, 2, none⟩)) rfl (by kernel_rfl) (by kernel_rfl) (by kernel_rfl) (by kernel_rfl) ?_
            refine pl_take (.int .i64 (o.lo : Int)) rfl (by kernel_rfl) (by kernel_rfl) (by kernel_rfl) (ex_load rfl (by kernel_rfl) (ld3 (bO1_2.1))) ?_
            refine pl_take (.pointer (some ⟨O1, 3, none⟩)) rfl (by kernel_rfl) (by kernel_rfl) (by kernel_rfl) (by kernel_rfl) ?_
            refine pl_take (.int .i64 (o.hi : Int)) rfl (by kernel_rfl) (by kernel_rfl) (by kernel_rfl) (ex_load rfl (by kernel_rfl) (ld3 (bO1_3.1))) ?_
            by_cases hc22 : (o.lo : Int) < (o.hi : Int)
            ·
              refine pl_take (.bool true) rfl (by kernel_rfl) (by kernel_rfl) (by kernel_rfl) (ev_dec (show _ = Result.ok (Next.value (Value.bool (decide ((o.lo : Int) < (o.hi : Int))))) _ from by kernel_rfl) (hc22)) ?_
              refine pl_take (.bool true) rfl (by kernel_rfl) (by kernel_rfl) (by kernel_rfl) (by kernel_rfl) ?_
              refine pl_take (.bool true) rfl (by kernel_rfl) (by kernel_rfl) (by kernel_rfl) (by kernel_rfl) ?_
              refine pl_nil ?_
              refine qw_then ?_
              refine cw_clean [1, 3, 4] (ws' := [(1, .pointer (some ⟨O1, 0, none⟩)), (3, .bool true), (4, .bool true)]) (by kernel_rfl) (fun L => ?_)
              refine cw_seq ?_
              refine cw_plain ?_
              refine pl_take (.bool true) rfl (by kernel_rfl) (by kernel_rfl) (by kernel_rfl) (by kernel_rfl) ?_
              refine pl_take (.bool true) rfl (by kernel_rfl) (by kernel_rfl) (by kernel_rfl) (by kernel_rfl) ?_
              refine pl_take (.bool true) rfl (by kernel_rfl) (by kernel_rfl) (by kernel_rfl) (by kernel_rfl) ?_
              refine pl_take (.bool true) rfl (by kernel_rfl) (by kernel_rfl) (by kernel_rfl) (by kernel_rfl) ?_
              refine pl_take (.bool true) rfl (by kernel_rfl) (by kernel_rfl) (by kernel_rfl) (by kernel_rfl) ?_
              refine pl_take (.pointer (some ⟨O1, 4, none⟩)) rfl (by kernel_rfl) (by kernel_rfl) (by kernel_rfl) (by kernel_rfl) ?_
              refine pl_take (.int .i64 (o.nd : Int)) rfl (by kernel_rfl) (by kernel_rfl) (by kernel_rfl) (ex_load rfl (by kernel_rfl) (ld3 (bO1_4.1))) ?_
              rcases Bool.eq_false_or_eq_true (Globe.inB o.nd 0 47999) with hb23 | hb23
              ·
                have hq24 := Globe.inB_t.1 hb23
                refine pl_step rfl (by kernel_rfl) (by kernel_rfl) (by kernel_rfl) (sn_call (f := 87) (args := #[.int .i64 (o.nd : Int), .int .i64 0, .int .i64 47999]) (by kernel_rfl) ((orbit_in_r (r := true) o.nd 0 47999 _ (hb23)).mono ?_))
                rintro e w25 ⟨rfl, hb⟩
                replace hE := hE.trans hb
                replace bO1_0 := BoxAt.ext hb bO1_0
                replace bO1_1 := BoxAt.ext hb bO1_1
                replace bO1_2 := BoxAt.ext hb bO1_2
                replace bO1_3 := BoxAt.ext hb bO1_3
                replace bO1_4 := BoxAt.ext hb bO1_4
                replace bO1_5 := BoxAt.ext hb bO1_5
                replace bO1_6 := BoxAt.ext hb bO1_6
                have hs26 := hb.size
                clear hb
                refine ⟨_, rfl, ?_⟩
                refine pl_take (.bool true) rfl (by kernel_rfl) (by kernel_rfl) (by kernel_rfl) (by kernel_rfl) ?_
                refine pl_take (.bool true) rfl (by kernel_rfl) (by kernel_rfl) (by kernel_rfl) (by kernel_rfl) ?_
                refine pl_take (.pointer (some ⟨O1, 5, none⟩)) rfl (by kernel_rfl) (by kernel_rfl) (by kernel_rfl) (by kernel_rfl) ?_
                refine pl_take (.int .i64 (o.tn : Int)) rfl (by kernel_rfl) (by kernel_rfl) (by kernel_rfl) (ex_load rfl (by kernel_rfl) (ld3 (bO1_5.1))) ?_
                rcases Bool.eq_false_or_eq_true (Globe.inB o.tn (-2000) 2000) with hb27 | hb27
                ·
                  have hq28 := Globe.inB_t.1 hb27
                  refine pl_step rfl (by kernel_rfl) (by kernel_rfl) (by kernel_rfl) (sn_call (f := 87) (args := #[.int .i64 (o.tn : Int), .int .i64 (-2000 : Int), .int .i64 2000]) (by kernel_rfl) ((orbit_in_r (r := true) o.tn (-2000) 2000 _ (hb27)).mono ?_))
                  rintro e w29 ⟨rfl, hb⟩
                  replace hE := hE.trans hb
                  replace bO1_0 := BoxAt.ext hb bO1_0
                  replace bO1_1 := BoxAt.ext hb bO1_1
                  replace bO1_2 := BoxAt.ext hb bO1_2
                  replace bO1_3 := BoxAt.ext hb bO1_3
                  replace bO1_4 := BoxAt.ext hb bO1_4
                  replace bO1_5 := BoxAt.ext hb bO1_5
                  replace bO1_6 := BoxAt.ext hb bO1_6
                  have hs30 := hb.size
                  clear hb
                  refine ⟨_, rfl, ?_⟩
                  refine pl_take (.bool true) rfl (by kernel_rfl) (by kernel_rfl) (by kernel_rfl) (by kernel_rfl) ?_
                  refine pl_take (.bool true) rfl (by kernel_rfl) (by kernel_rfl) (by kernel_rfl) (by kernel_rfl) ?_
                  refine pl_take (.pointer (some ⟨O1, 6, none⟩)) rfl (by kernel_rfl) (by kernel_rfl) (by kernel_rfl) (by kernel_rfl) ?_
                  refine pl_take (.int .i64 (o.sl : Int)) rfl (by kernel_rfl) (by kernel_rfl) (by kernel_rfl) (ex_load rfl (by kernel_rfl) (ld3 (bO1_6.1))) ?_
                  rcases Bool.eq_false_or_eq_true (Globe.inB o.sl 0 10) with hb31 | hb31
                  ·
                    have hq32 := Globe.inB_t.1 hb31
                    refine pl_step rfl (by kernel_rfl) (by kernel_rfl) (by kernel_rfl) (sn_call (f := 87) (args := #[.int .i64 (o.sl : Int), .int .i64 0, .int .i64 10]) (by kernel_rfl) ((orbit_in_r (r := true) o.sl 0 10 _ (hb31)).mono ?_))
                    rintro e w33 ⟨rfl, hb⟩
                    replace hE := hE.trans hb
                    replace bO1_0 := BoxAt.ext hb bO1_0
                    replace bO1_1 := BoxAt.ext hb bO1_1
                    replace bO1_2 := BoxAt.ext hb bO1_2
                    replace bO1_3 := BoxAt.ext hb bO1_3
                    replace bO1_4 := BoxAt.ext hb bO1_4
                    replace bO1_5 := BoxAt.ext hb bO1_5
                    replace bO1_6 := BoxAt.ext hb bO1_6
                    have hs34 := hb.size
                    clear hb
                    refine ⟨_, rfl, ?_⟩
                    refine pl_take (.bool true) rfl (by kernel_rfl) (by kernel_rfl) (by kernel_rfl) (by kernel_rfl) ?_
                    refine pl_take (.bool true) rfl (by kernel_rfl) (by kernel_rfl) (by kernel_rfl) (by kernel_rfl) ?_
                    refine pl_nil ?_
                    refine qw_then ?_
                    refine cw_clean [2] (ws' := [(2, .bool true)]) (by kernel_rfl) (fun L => ?_)
                    refine cw_ret ?_
                    refine qw_ret [.bool true] rfl ⟨(by kernel_rfl), trivial⟩ ?_
                    exact ⟨congrArg (fun b => Ending.returned (Value.bool b)) (show Orb.ok o = true by simp [Orb.ok, hb5, hb10, hb14, hb18, hb23, hb27, hb31, hc9, hc22]).symm, hE⟩
                  ·
                    refine pl_step rfl (by kernel_rfl) (by kernel_rfl) (by kernel_rfl) (sn_call (f := 87) (args := #[.int .i64 (o.sl : Int), .int .i64 0, .int .i64 10]) (by kernel_rfl) ((orbit_in_r (r := false) o.sl 0 10 _ (hb31)).mono ?_))
                    rintro e w35 ⟨rfl, hb⟩
                    replace hE := hE.trans hb
                    replace bO1_0 := BoxAt.ext hb bO1_0
                    replace bO1_1 := BoxAt.ext hb bO1_1
                    replace bO1_2 := BoxAt.ext hb bO1_2
                    replace bO1_3 := BoxAt.ext hb bO1_3
                    replace bO1_4 := BoxAt.ext hb bO1_4
                    replace bO1_5 := BoxAt.ext hb bO1_5
                    replace bO1_6 := BoxAt.ext hb bO1_6
                    have hs36 := hb.size
                    clear hb
                    refine ⟨_, rfl, ?_⟩
                    refine pl_take (.bool false) rfl (by kernel_rfl) (by kernel_rfl) (by kernel_rfl) (by kernel_rfl) ?_
                    refine pl_take (.bool false) rfl (by kernel_rfl) (by kernel_rfl) (by kernel_rfl) (by kernel_rfl) ?_
                    refine pl_nil ?_
                    refine qw_then ?_
                    refine cw_clean [2] (ws' := [(2, .bool false)]) (by kernel_rfl) (fun L => ?_)
                    refine cw_ret ?_
                    refine qw_ret [.bool false] rfl ⟨(by kernel_rfl), trivial⟩ ?_
                    exact ⟨congrArg (fun b => Ending.returned (Value.bool b)) (show Orb.ok o = false by simp [Orb.ok, hb5, hb10, hb14, hb18, hb23, hb27, hb31, hc9, hc22]).symm, hE⟩
                ·
                  refine pl_step rfl (by kernel_rfl) (by kernel_rfl) (by kernel_rfl) (sn_call (f := 87) (args := #[.int .i64 (o.tn : Int), .int .i64 (-2000 : Int), .int .i64 2000]) (by kernel_rfl) ((orbit_in_r (r := false) o.tn (-2000) 2000 _ (hb27)).mono ?_))
                  rintro e w37 ⟨rfl, hb⟩
                  replace hE := hE.trans hb
                  replace bO1_0 := BoxAt.ext hb bO1_0
                  replace bO1_1 := BoxAt.ext hb bO1_1
                  replace bO1_2 := BoxAt.ext hb bO1_2
                  replace bO1_3 := BoxAt.ext hb bO1_3
                  replace bO1_4 := BoxAt.ext hb bO1_4
                  replace bO1_5 := BoxAt.ext hb bO1_5
                  replace bO1_6 := BoxAt.ext hb bO1_6
                  have hs38 := hb.size
                  clear hb
                  refine ⟨_, rfl, ?_⟩
                  refine pl_take (.bool false) rfl (by kernel_rfl) (by kernel_rfl) (by kernel_rfl) (by kernel_rfl) ?_
                  refine pl_take (.bool false) rfl (by kernel_rfl) (by kernel_rfl) (by kernel_rfl) (by kernel_rfl) ?_
                  refine pl_skip rfl (by kernel_rfl) (by kernel_rfl) (by kernel_rfl) ?_
                  refine pl_skip rfl (by kernel_rfl) (by kernel_rfl) (by kernel_rfl) ?_
                  refine pl_skip rfl (by kernel_rfl) (by kernel_rfl) (by kernel_rfl) ?_
                  refine pl_take (.bool false) rfl (by kernel_rfl) (by kernel_rfl) (by kernel_rfl) (by kernel_rfl) ?_
                  refine pl_take (.bool false) rfl (by kernel_rfl) (by kernel_rfl) (by kernel_rfl) (by kernel_rfl) ?_
                  refine pl_nil ?_
                  refine qw_then ?_
                  refine cw_clean [2] (ws' := [(2, .bool false)]) (by kernel_rfl) (fun L => ?_)
                  refine cw_ret ?_
                  refine qw_ret [.bool false] rfl ⟨(by kernel_rfl), trivial⟩ ?_
                  exact ⟨congrArg (fun b => Ending.returned (Value.bool b)) (show Orb.ok o = false by simp [Orb.ok, hb5, hb10, hb14, hb18, hb23, hb27, hc9, hc22]).symm, hE⟩
              ·
                refine pl_step rfl (by kernel_rfl) (by kernel_rfl) (by kernel_rfl) (sn_call (f := 87) (args := #[.int .i64 (o.nd : Int), .int .i64 0, .int .i64 47999]) (by kernel_rfl) ((orbit_in_r (r := false) o.nd 0 47999 _ (hb23)).mono ?_))
                rintro e w39 ⟨rfl, hb⟩
                replace hE := hE.trans hb
                replace bO1_0 := BoxAt.ext hb bO1_0
                replace bO1_1 := BoxAt.ext hb bO1_1
                replace bO1_2 := BoxAt.ext hb bO1_2
                replace bO1_3 := BoxAt.ext hb bO1_3
                replace bO1_4 := BoxAt.ext hb bO1_4
                replace bO1_5 := BoxAt.ext hb bO1_5
                replace bO1_6 := BoxAt.ext hb bO1_6
                have hs40 := hb.size
                clear hb
                refine ⟨_, rfl, ?_⟩
                refine pl_take (.bool false) rfl (by kernel_rfl) (by kernel_rfl) (by kernel_rfl) (by kernel_rfl) ?_
                refine pl_take (.bool false) rfl (by kernel_rfl) (by kernel_rfl) (by kernel_rfl) (by kernel_rfl) ?_
                refine pl_skip rfl (by kernel_rfl) (by kernel_rfl) (by kernel_rfl) ?_
                refine pl_skip rfl (by kernel_rfl) (by kernel_rfl) (by kernel_rfl) ?_
                refine pl_skip rfl (by kernel_rfl) (by kernel_rfl) (by kernel_rfl) ?_
                refine pl_take (.bool false) rfl (by kernel_rfl) (by kernel_rfl) (by kernel_rfl) (by kernel_rfl) ?_
                refine pl_take (.bool false) rfl (by kernel_rfl) (by kernel_rfl) (by kernel_rfl) (by kernel_rfl) ?_
                refine pl_skip rfl (by kernel_rfl) (by kernel_rfl) (by kernel_rfl) ?_
                refine pl_skip rfl (by kernel_rfl) (by kernel_rfl) (by kernel_rfl) ?_
                refine pl_skip rfl (by kernel_rfl) (by kernel_rfl) (by kernel_rfl) ?_
                refine pl_take (.bool false) rfl (by kernel_rfl) (by kernel_rfl) (by kernel_rfl) (by kernel_rfl) ?_
                refine pl_take (.bool false) rfl (by kernel_rfl) (by kernel_rfl) (by kernel_rfl) (by kernel_rfl) ?_
                refine pl_nil ?_
                refine qw_then ?_
                refine cw_clean [2] (ws' := [(2, .bool false)]) (by kernel_rfl) (fun L => ?_)
                refine cw_ret ?_
                refine qw_ret [.bool false] rfl ⟨(by kernel_rfl), trivial⟩ ?_
                exact ⟨congrArg (fun b => Ending.returned (Value.bool b)) (show Orb.ok o = false by simp [Orb.ok, hb5, hb10, hb14, hb18, hb23, hc9, hc22]).symm, hE⟩
            ·
              refine pl_take (.bool false) rfl (by kernel_rfl) (by kernel_rfl) (by kernel_rfl) (ev_ndec (show _ = Result.ok (Next.value (Value.bool (decide ((o.lo : Int) < (o.hi : Int))))) _ from by kernel_rfl) (hc22)) ?_
              refine pl_take (.bool false) rfl (by kernel_rfl) (by kernel_rfl) (by kernel_rfl) (by kernel_rfl) ?_
              refine pl_take (.bool false) rfl (by kernel_rfl) (by kernel_rfl) (by kernel_rfl) (by kernel_rfl) ?_
              refine pl_nil ?_
              refine qw_then ?_
              refine cw_clean [1, 3, 4] (ws' := [(1, .pointer (some ⟨O1, 0, none⟩)), (3, .bool true), (4, .bool false)]) (by kernel_rfl) (fun L => ?_)
              refine cw_seq ?_
              refine cw_plain ?_
              refine pl_take (.bool true) rfl (by kernel_rfl) (by kernel_rfl) (by kernel_rfl) (by kernel_rfl) ?_
              refine pl_take (.bool true) rfl (by kernel_rfl) (by kernel_rfl) (by kernel_rfl) (by kernel_rfl) ?_
              refine pl_take (.bool false) rfl (by kernel_rfl) (by kernel_rfl) (by kernel_rfl) (by kernel_rfl) ?_
              refine pl_take (.bool false) rfl (by kernel_rfl) (by kernel_rfl) (by kernel_rfl) (by kernel_rfl) ?_
              refine pl_take (.bool false) rfl (by kernel_rfl) (by kernel_rfl) (by kernel_rfl) (by kernel_rfl) ?_
              refine pl_skip rfl (by kernel_rfl) (by kernel_rfl) (by kernel_rfl) ?_
              refine pl_skip rfl (by kernel_rfl) (by kernel_rfl) (by kernel_rfl) ?_
              refine pl_skip rfl (by kernel_rfl) (by kernel_rfl) (by kernel_rfl) ?_
              refine pl_take (.bool false) rfl (by kernel_rfl) (by kernel_rfl) (by kernel_rfl) (by kernel_rfl) ?_
              refine pl_take (.bool false) rfl (by kernel_rfl) (by kernel_rfl) (by kernel_rfl) (by kernel_rfl) ?_
              refine pl_skip rfl (by kernel_rfl) (by kernel_rfl) (by kernel_rfl) ?_
              refine pl_skip rfl (by kernel_rfl) (by kernel_rfl) (by kernel_rfl) ?_
              refine pl_skip rfl (by kernel_rfl) (by kernel_rfl) (by kernel_rfl) ?_
              refine pl_take (.bool false) rfl (by kernel_rfl) (by kernel_rfl) (by kernel_rfl) (by kernel_rfl) ?_
              refine pl_take (.bool false) rfl (by kernel_rfl) (by kernel_rfl) (by kernel_rfl) (by kernel_rfl) ?_
              refine pl_skip rfl (by kernel_rfl) (by kernel_rfl) (by kernel_rfl) ?_
              refine pl_skip rfl (by kernel_rfl) (by kernel_rfl) (by kernel_rfl) ?_
              refine pl_skip rfl (by kernel_rfl) (by kernel_rfl) (by kernel_rfl) ?_
              refine pl_take (.bool false) rfl (by kernel_rfl) (by kernel_rfl) (by kernel_rfl) (by kernel_rfl) ?_
              refine pl_take (.bool false) rfl (by kernel_rfl) (by kernel_rfl) (by kernel_rfl) (by kernel_rfl) ?_
              refine pl_nil ?_
              refine qw_then ?_
              refine cw_clean [2] (ws' := [(2, .bool false)]) (by kernel_rfl) (fun L => ?_)
              refine cw_ret ?_
              refine qw_ret [.bool false] rfl ⟨(by kernel_rfl), trivial⟩ ?_
              exact ⟨congrArg (fun b => Ending.returned (Value.bool b)) (show Orb.ok o = false by simp [Orb.ok, hb5, hb10, hb14, hb18, hc9, hc22]).symm, hE⟩
          ·
            refine pl_step rfl (by kernel_rfl) (by kernel_rfl) (by kernel_rfl) (sn_call (f := 87) (args := #[.int .i64 (o.hi : Int), .int .i64 0, .int .i64 23999]) (by kernel_rfl) ((orbit_in_r (r := false) o.hi 0 23999 _ (hb18)).mono ?_))
            rintro e w41 ⟨rfl, hb⟩
            replace hE := hE.trans hb
            replace bO1_0 := BoxAt.ext hb bO1_0
            replace bO1_1 := BoxAt.ext hb bO1_1
            replace bO1_2 := BoxAt.ext hb bO1_2
            replace bO1_3 := BoxAt.ext hb bO1_3
            replace bO1_4 := BoxAt.ext hb bO1_4
            replace bO1_5 := BoxAt.ext hb bO1_5
            replace bO1_6 := BoxAt.ext hb bO1_6
            have hs42 := hb.size
            clear hb
            refine ⟨_, rfl, ?_⟩
            refine pl_take (.bool false) rfl (by kernel_rfl) (by kernel_rfl) (by kernel_rfl) (by kernel_rfl) ?_
            refine pl_take (.bool false) rfl (by kernel_rfl) (by kernel_rfl) (by kernel_rfl) (by kernel_rfl) ?_
            refine pl_skip rfl (by kernel_rfl) (by kernel_rfl) (by kernel_rfl) ?_
            refine pl_skip rfl (by kernel_rfl) (by kernel_rfl) (by kernel_rfl) ?_
            refine pl_skip rfl (by kernel_rfl) (by kernel_rfl) (by kernel_rfl) ?_
            refine pl_skip rfl (by kernel_rfl) (by kernel_rfl) (by kernel_rfl) ?_
            refine pl_skip rfl (by kernel_rfl) (by kernel_rfl) (by kernel_rfl) ?_
            refine pl_take (.bool false) rfl (by kernel_rfl) (by kernel_rfl) (by kernel_rfl) (by kernel_rfl) ?_
            refine pl_take (.bool false) rfl (by kernel_rfl) (by kernel_rfl) (by kernel_rfl) (by kernel_rfl) ?_
            refine pl_nil ?_
            refine qw_then ?_
            refine cw_clean [1, 3, 4] (ws' := [(1, .pointer (some ⟨O1, 0, none⟩)), (3, .bool true), (4, .bool false)]) (by kernel_rfl) (fun L => ?_)
            refine cw_seq ?_
            refine cw_plain ?_
            refine pl_take (.bool true) rfl (by kernel_rfl) (by kernel_rfl) (by kernel_rfl) (by kernel_rfl) ?_
            refine pl_take (.bool true) rfl (by kernel_rfl) (by kernel_rfl) (by kernel_rfl) (by kernel_rfl) ?_
            refine pl_take (.bool false) rfl (by kernel_rfl) (by kernel_rfl) (by kernel_rfl) (by kernel_rfl) ?_
            refine pl_take (.bool false) rfl (by kernel_rfl) (by kernel_rfl) (by kernel_rfl) (by kernel_rfl) ?_
            refine pl_take (.bool false) rfl (by kernel_rfl) (by kernel_rfl) (by kernel_rfl) (by kernel_rfl) ?_
            refine pl_skip rfl (by kernel_rfl) (by kernel_rfl) (by kernel_rfl) ?_
            refine pl_skip rfl (by kernel_rfl) (by kernel_rfl) (by kernel_rfl) ?_
            refine pl_skip rfl (by kernel_rfl) (by kernel_rfl) (by kernel_rfl) ?_
            refine pl_take (.bool false) rfl (by kernel_rfl) (by kernel_rfl) (by kernel_rfl) (by kernel_rfl) ?_
            refine pl_take (.bool false) rfl (by kernel_rfl) (by kernel_rfl) (by kernel_rfl) (by kernel_rfl) ?_
            refine pl_skip rfl (by kernel_rfl) (by kernel_rfl) (by kernel_rfl) ?_
            refine pl_skip rfl (by kernel_rfl) (by kernel_rfl) (by kernel_rfl) ?_
            refine pl_skip rfl (by kernel_rfl) (by kernel_rfl) (by kernel_rfl) ?_
            refine pl_take (.bool false) rfl (by kernel_rfl) (by kernel_rfl) (by kernel_rfl) (by kernel_rfl) ?_
            refine pl_take (.bool false) rfl (by kernel_rfl) (by kernel_rfl) (by kernel_rfl) (by kernel_rfl) ?_
            refine pl_skip rfl (by kernel_rfl) (by kernel_rfl) (by kernel_rfl) ?_
            refine pl_skip rfl (by kernel_rfl) (by kernel_rfl) (by kernel_rfl) ?_
            refine pl_skip rfl (by kernel_rfl) (by kernel_rfl) (by kernel_rfl) ?_
            refine pl_take (.bool false) rfl (by kernel_rfl) (by kernel_rfl) (by kernel_rfl) (by kernel_rfl) ?_
            refine pl_take (.bool false) rfl (by kernel_rfl) (by kernel_rfl) (by kernel_rfl) (by kernel_rfl) ?_
            refine pl_nil ?_
            refine qw_then ?_
            refine cw_clean [2] (ws' := [(2, .bool false)]) (by kernel_rfl) (fun L => ?_)
            refine cw_ret ?_
            refine qw_ret [.bool false] rfl ⟨(by kernel_rfl), trivial⟩ ?_
            exact ⟨congrArg (fun b => Ending.returned (Value.bool b)) (show Orb.ok o = false by simp [Orb.ok, hb5, hb10, hb14, hb18, hc9]).symm, hE⟩
        ·
          refine pl_step rfl (by kernel_rfl) (by kernel_rfl) (by kernel_rfl) (sn_call (f := 87) (args := #[.int .i64 (o.lo : Int), .int .i64 0, .int .i64 23999]) (by kernel_rfl) ((orbit_in_r (r := false) o.lo 0 23999 _ (hb14)).mono ?_))
          rintro e w43 ⟨rfl, hb⟩
          replace hE := hE.trans hb
          replace bO1_0 := BoxAt.ext hb bO1_0
          replace bO1_1 := BoxAt.ext hb bO1_1
          replace bO1_2 := BoxAt.ext hb bO1_2
          replace bO1_3 := BoxAt.ext hb bO1_3
          replace bO1_4 := BoxAt.ext hb bO1_4
          replace bO1_5 := BoxAt.ext hb bO1_5
          replace bO1_6 := BoxAt.ext hb bO1_6
          have hs44 := hb.size
          clear hb
          refine ⟨_, rfl, ?_⟩
          refine pl_take (.bool false) rfl (by kernel_rfl) (by kernel_rfl) (by kernel_rfl) (by kernel_rfl) ?_
          refine pl_skip rfl (by kernel_rfl) (by kernel_rfl) (by kernel_rfl) ?_
          refine pl_skip rfl (by kernel_rfl) (by kernel_rfl) (by kernel_rfl) ?_
          refine pl_skip rfl (by kernel_rfl) (by kernel_rfl) (by kernel_rfl) ?_
          refine pl_take (.bool false) rfl (by kernel_rfl) (by kernel_rfl) (by kernel_rfl) (by kernel_rfl) ?_
          refine pl_take (.bool false) rfl (by kernel_rfl) (by kernel_rfl) (by kernel_rfl) (by kernel_rfl) ?_
          refine pl_skip rfl (by kernel_rfl) (by kernel_rfl) (by kernel_rfl) ?_
          refine pl_skip rfl (by kernel_rfl) (by kernel_rfl) (by kernel_rfl) ?_
          refine pl_skip rfl (by kernel_rfl) (by kernel_rfl) (by kernel_rfl) ?_
          refine pl_skip rfl (by kernel_rfl) (by kernel_rfl) (by kernel_rfl) ?_
          refine pl_skip rfl (by kernel_rfl) (by kernel_rfl) (by kernel_rfl) ?_
          refine pl_take (.bool false) rfl (by kernel_rfl) (by kernel_rfl) (by kernel_rfl) (by kernel_rfl) ?_
          refine pl_take (.bool false) rfl (by kernel_rfl) (by kernel_rfl) (by kernel_rfl) (by kernel_rfl) ?_
          refine pl_nil ?_
          refine qw_then ?_
          refine cw_clean [1, 3, 4] (ws' := [(1, .pointer (some ⟨O1, 0, none⟩)), (3, .bool true), (4, .bool false)]) (by kernel_rfl) (fun L => ?_)
          refine cw_seq ?_
          refine cw_plain ?_
          refine pl_take (.bool true) rfl (by kernel_rfl) (by kernel_rfl) (by kernel_rfl) (by kernel_rfl) ?_
          refine pl_take (.bool true) rfl (by kernel_rfl) (by kernel_rfl) (by kernel_rfl) (by kernel_rfl) ?_
          refine pl_take (.bool false) rfl (by kernel_rfl) (by kernel_rfl) (by kernel_rfl) (by kernel_rfl) ?_
          refine pl_take (.bool false) rfl (by kernel_rfl) (by kernel_rfl) (by kernel_rfl) (by kernel_rfl) ?_
          refine pl_take (.bool false) rfl (by kernel_rfl) (by kernel_rfl) (by kernel_rfl) (by kernel_rfl) ?_
          refine pl_skip rfl (by kernel_rfl) (by kernel_rfl) (by kernel_rfl) ?_
          refine pl_skip rfl (by kernel_rfl) (by kernel_rfl) (by kernel_rfl) ?_
          refine pl_skip rfl (by kernel_rfl) (by kernel_rfl) (by kernel_rfl) ?_
          refine pl_take (.bool false) rfl (by kernel_rfl) (by kernel_rfl) (by kernel_rfl) (by kernel_rfl) ?_
          refine pl_take (.bool false) rfl (by kernel_rfl) (by kernel_rfl) (by kernel_rfl) (by kernel_rfl) ?_
          refine pl_skip rfl (by kernel_rfl) (by kernel_rfl) (by kernel_rfl) ?_
          refine pl_skip rfl (by kernel_rfl) (by kernel_rfl) (by kernel_rfl) ?_
          refine pl_skip rfl (by kernel_rfl) (by kernel_rfl) (by kernel_rfl) ?_
          refine pl_take (.bool false) rfl (by kernel_rfl) (by kernel_rfl) (by kernel_rfl) (by kernel_rfl) ?_
          refine pl_take (.bool false) rfl (by kernel_rfl) (by kernel_rfl) (by kernel_rfl) (by kernel_rfl) ?_
          refine pl_skip rfl (by kernel_rfl) (by kernel_rfl) (by kernel_rfl) ?_
          refine pl_skip rfl (by kernel_rfl) (by kernel_rfl) (by kernel_rfl) ?_
          refine pl_skip rfl (by kernel_rfl) (by kernel_rfl) (by kernel_rfl) ?_
          refine pl_take (.bool false) rfl (by kernel_rfl) (by kernel_rfl) (by kernel_rfl) (by kernel_rfl) ?_
          refine pl_take (.bool false) rfl (by kernel_rfl) (by kernel_rfl) (by kernel_rfl) (by kernel_rfl) ?_
          refine pl_nil ?_
          refine qw_then ?_
          refine cw_clean [2] (ws' := [(2, .bool false)]) (by kernel_rfl) (fun L => ?_)
          refine cw_ret ?_
          refine qw_ret [.bool false] rfl ⟨(by kernel_rfl), trivial⟩ ?_
          exact ⟨congrArg (fun b => Ending.returned (Value.bool b)) (show Orb.ok o = false by simp [Orb.ok, hb5, hb10, hb14, hc9]).symm, hE⟩
      ·
        refine pl_step rfl (by kernel_rfl) (by kernel_rfl) (by kernel_rfl) (sn_call (f := 87) (args := #[.int .i64 (o.f : Int), .int .i64 0, .int .i64 (o.p - 1 : Int)]) (by kernel_rfl) ((orbit_in_r (r := false) o.f 0 (o.p - 1) _ (hb10)).mono ?_))
        rintro e w45 ⟨rfl, hb⟩
        replace hE := hE.trans hb
        replace bO1_0 := BoxAt.ext hb bO1_0
        replace bO1_1 := BoxAt.ext hb bO1_1
        replace bO1_2 := BoxAt.ext hb bO1_2
        replace bO1_3 := BoxAt.ext hb bO1_3
        replace bO1_4 := BoxAt.ext hb bO1_4
        replace bO1_5 := BoxAt.ext hb bO1_5
        replace bO1_6 := BoxAt.ext hb bO1_6
        have hs46 := hb.size
        clear hb
        refine ⟨_, rfl, ?_⟩
        refine pl_take (.bool false) rfl (by kernel_rfl) (by kernel_rfl) (by kernel_rfl) (by kernel_rfl) ?_
        refine pl_take (.bool false) rfl (by kernel_rfl) (by kernel_rfl) (by kernel_rfl) (by kernel_rfl) ?_
        refine pl_nil ?_
        refine qw_then ?_
        refine cw_clean [1, 3] (ws' := [(1, .pointer (some ⟨O1, 0, none⟩)), (3, .bool false)]) (by kernel_rfl) (fun L => ?_)
        refine cw_seq ?_
        refine cw_plain ?_
        refine pl_take (.pointer (some ⟨O1, 2, none⟩)) rfl (by kernel_rfl) (by kernel_rfl) (by kernel_rfl) (by kernel_rfl) ?_
        refine pl_take (.int .i64 (o.lo : Int)) rfl (by kernel_rfl) (by kernel_rfl) (by kernel_rfl) (ex_load rfl (by kernel_rfl) (ld3 (bO1_2.1))) ?_
        rcases Bool.eq_false_or_eq_true (Globe.inB o.lo 0 23999) with hb47 | hb47
        ·
          have hq48 := Globe.inB_t.1 hb47
          refine pl_step rfl (by kernel_rfl) (by kernel_rfl) (by kernel_rfl) (sn_call (f := 87) (args := #[.int .i64 (o.lo : Int), .int .i64 0, .int .i64 23999]) (by kernel_rfl) ((orbit_in_r (r := true) o.lo 0 23999 _ (hb47)).mono ?_))
          rintro e w49 ⟨rfl, hb⟩
          replace hE := hE.trans hb
          replace bO1_0 := BoxAt.ext hb bO1_0
          replace bO1_1 := BoxAt.ext hb bO1_1
          replace bO1_2 := BoxAt.ext hb bO1_2
          replace bO1_3 := BoxAt.ext hb bO1_3
          replace bO1_4 := BoxAt.ext hb bO1_4
          replace bO1_5 := BoxAt.ext hb bO1_5
          replace bO1_6 := BoxAt.ext hb bO1_6
          have hs50 := hb.size
          clear hb
          refine ⟨_, rfl, ?_⟩
          refine pl_take (.bool true) rfl (by kernel_rfl) (by kernel_rfl) (by kernel_rfl) (by kernel_rfl) ?_
          refine pl_take (.pointer (some ⟨O1, 3, none⟩)) rfl (by kernel_rfl) (by kernel_rfl) (by kernel_rfl) (by kernel_rfl) ?_
          refine pl_take (.int .i64 (o.hi : Int)) rfl (by kernel_rfl) (by kernel_rfl) (by kernel_rfl) (ex_load rfl (by kernel_rfl) (ld3 (bO1_3.1))) ?_
          rcases Bool.eq_false_or_eq_true (Globe.inB o.hi 0 23999) with hb51 | hb51
          ·
            have hq52 := Globe.inB_t.1 hb51
            refine pl_step rfl (by kernel_rfl) (by kernel_rfl) (by kernel_rfl) (sn_call (f := 87) (args := #[.int .i64 (o.hi : Int), .int .i64 0, .int .i64 23999]) (by kernel_rfl) ((orbit_in_r (r := true) o.hi 0 23999 _ (hb51)).mono ?_))
            rintro e w53 ⟨rfl, hb⟩
            replace hE := hE.trans hb
            replace bO1_0 := BoxAt.ext hb bO1_0
            replace bO1_1 := BoxAt.ext hb bO1_1
            replace bO1_2 := BoxAt.ext hb bO1_2
            replace bO1_3 := BoxAt.ext hb bO1_3
            replace bO1_4 := BoxAt.ext hb bO1_4
            replace bO1_5 := BoxAt.ext hb bO1_5
            replace bO1_6 := BoxAt.ext hb bO1_6
            have hs54 := hb.size
            clear hb
            refine ⟨_, rfl, ?_⟩
            refine pl_take (.bool true) rfl (by kernel_rfl) (by kernel_rfl) (by kernel_rfl) (by kernel_rfl) ?_
            refine pl_take (.bool true) rfl (by kernel_rfl) (by kernel_rfl) (by kernel_rfl) (by kernel_rfl) ?_
            refine pl_take (.pointer (some ⟨O1, 2, none⟩)) rfl (by kernel_rfl) (by kernel_rfl) (by kernel_rfl) (by kernel_rfl) ?_
            refine pl_take (.int .i64 (o.lo : Int)) rfl (by kernel_rfl) (by kernel_rfl) (by kernel_rfl) (ex_load rfl (by kernel_rfl) (ld3 (bO1_2.1))) ?_
            refine pl_take (.pointer (some ⟨O1, 3, none⟩)) rfl (by kernel_rfl) (by kernel_rfl) (by kernel_rfl) (by kernel_rfl) ?_
            refine pl_take (.int .i64 (o.hi : Int)) rfl (by kernel_rfl) (by kernel_rfl) (by kernel_rfl) (ex_load rfl (by kernel_rfl) (ld3 (bO1_3.1))) ?_
            by_cases hc55 : (o.lo : Int) < (o.hi : Int)
            ·
              refine pl_take (.bool true) rfl (by kernel_rfl) (by kernel_rfl) (by kernel_rfl) (ev_dec (show _ = Result.ok (Next.value (Value.bool (decide ((o.lo : Int) < (o.hi : Int))))) _ from by kernel_rfl) (hc55)) ?_
              refine pl_take (.bool true) rfl (by kernel_rfl) (by kernel_rfl) (by kernel_rfl) (by kernel_rfl) ?_
              refine pl_take (.bool true) rfl (by kernel_rfl) (by kernel_rfl) (by kernel_rfl) (by kernel_rfl) ?_
              refine pl_nil ?_
              refine qw_then ?_
              refine cw_clean [1, 3, 4] (ws' := [(1, .pointer (some ⟨O1, 0, none⟩)), (3, .bool false), (4, .bool true)]) (by kernel_rfl) (fun L => ?_)
              refine cw_seq ?_
              refine cw_plain ?_
              refine pl_take (.bool false) rfl (by kernel_rfl) (by kernel_rfl) (by kernel_rfl) (by kernel_rfl) ?_
              refine pl_take (.bool false) rfl (by kernel_rfl) (by kernel_rfl) (by kernel_rfl) (by kernel_rfl) ?_
              refine pl_skip rfl (by kernel_rfl) (by kernel_rfl) (by kernel_rfl) ?_
              refine pl_take (.bool false) rfl (by kernel_rfl) (by kernel_rfl) (by kernel_rfl) (by kernel_rfl) ?_
              refine pl_take (.bool false) rfl (by kernel_rfl) (by kernel_rfl) (by kernel_rfl) (by kernel_rfl) ?_
              refine pl_skip rfl (by kernel_rfl) (by kernel_rfl) (by kernel_rfl) ?_
              refine pl_skip rfl (by kernel_rfl) (by kernel_rfl) (by kernel_rfl) ?_
              refine pl_skip rfl (by kernel_rfl) (by kernel_rfl) (by kernel_rfl) ?_
              refine pl_take (.bool false) rfl (by kernel_rfl) (by kernel_rfl) (by kernel_rfl) (by kernel_rfl) ?_
              refine pl_take (.bool false) rfl (by kernel_rfl) (by kernel_rfl) (by kernel_rfl) (by kernel_rfl) ?_
              refine pl_skip rfl (by kernel_rfl) (by kernel_rfl) (by kernel_rfl) ?_
              refine pl_skip rfl (by kernel_rfl) (by kernel_rfl) (by kernel_rfl) ?_
              refine pl_skip rfl (by kernel_rfl) (by kernel_rfl) (by kernel_rfl) ?_
              refine pl_take (.bool false) rfl (by kernel_rfl) (by kernel_rfl) (by kernel_rfl) (by kernel_rfl) ?_
              refine pl_take (.bool false) rfl (by kernel_rfl) (by kernel_rfl) (by kernel_rfl) (by kernel_rfl) ?_
              refine pl_skip rfl (by kernel_rfl) (by kernel_rfl) (by kernel_rfl) ?_
              refine pl_skip rfl (by kernel_rfl) (by kernel_rfl) (by kernel_rfl) ?_
              refine pl_skip rfl (by kernel_rfl) (by kernel_rfl) (by kernel_rfl) ?_
              refine pl_take (.bool false) rfl (by kernel_rfl) (by kernel_rfl) (by kernel_rfl) (by kernel_rfl) ?_
              refine pl_take (.bool false) rfl (by kernel_rfl) (by kernel_rfl) (by kernel_rfl) (by kernel_rfl) ?_
              refine pl_nil ?_
              refine qw_then ?_
              refine cw_clean [2] (ws' := [(2, .bool false)]) (by kernel_rfl) (fun L => ?_)
              refine cw_ret ?_
              refine qw_ret [.bool false] rfl ⟨(by kernel_rfl), trivial⟩ ?_
              exact ⟨congrArg (fun b => Ending.returned (Value.bool b)) (show Orb.ok o = false by simp [Orb.ok, hb5, hb10, hb47, hb51, hc9, hc55]).symm, hE⟩
            ·
              refine pl_take (.bool false) rfl (by kernel_rfl) (by kernel_rfl) (by kernel_rfl) (ev_ndec (show _ = Result.ok (Next.value (Value.bool (decide ((o.lo : Int) < (o.hi : Int))))) _ from by kernel_rfl) (hc55)) ?_
              refine pl_take (.bool false) rfl (by kernel_rfl) (by kernel_rfl) (by kernel_rfl) (by kernel_rfl) ?_
              refine pl_take (.bool false) rfl (by kernel_rfl) (by kernel_rfl) (by kernel_rfl) (by kernel_rfl) ?_
              refine pl_nil ?_
              refine qw_then ?_
              refine cw_clean [1, 3, 4] (ws' := [(1, .pointer (some ⟨O1, 0, none⟩)), (3, .bool false), (4, .bool false)]) (by kernel_rfl) (fun L => ?_)
              refine cw_seq ?_
              refine cw_plain ?_
              refine pl_take (.bool false) rfl (by kernel_rfl) (by kernel_rfl) (by kernel_rfl) (by kernel_rfl) ?_
              refine pl_take (.bool false) rfl (by kernel_rfl) (by kernel_rfl) (by kernel_rfl) (by kernel_rfl) ?_
              refine pl_skip rfl (by kernel_rfl) (by kernel_rfl) (by kernel_rfl) ?_
              refine pl_take (.bool false) rfl (by kernel_rfl) (by kernel_rfl) (by kernel_rfl) (by kernel_rfl) ?_
              refine pl_take (.bool false) rfl (by kernel_rfl) (by kernel_rfl) (by kernel_rfl) (by kernel_rfl) ?_
              refine pl_skip rfl (by kernel_rfl) (by kernel_rfl) (by kernel_rfl) ?_
              refine pl_skip rfl (by kernel_rfl) (by kernel_rfl) (by kernel_rfl) ?_
              refine pl_skip rfl (by kernel_rfl) (by kernel_rfl) (by kernel_rfl) ?_
              refine pl_take (.bool false) rfl (by kernel_rfl) (by kernel_rfl) (by kernel_rfl) (by kernel_rfl) ?_
              refine pl_take (.bool false) rfl (by kernel_rfl) (by kernel_rfl) (by kernel_rfl) (by kernel_rfl) ?_
              refine pl_skip rfl (by kernel_rfl) (by kernel_rfl) (by kernel_rfl) ?_
              refine pl_skip rfl (by kernel_rfl) (by kernel_rfl) (by kernel_rfl) ?_
              refine pl_skip rfl (by kernel_rfl) (by kernel_rfl) (by kernel_rfl) ?_
              refine pl_take (.bool false) rfl (by kernel_rfl) (by kernel_rfl) (by kernel_rfl) (by kernel_rfl) ?_
              refine pl_take (.bool false) rfl (by kernel_rfl) (by kernel_rfl) (by kernel_rfl) (by kernel_rfl) ?_
              refine pl_skip rfl (by kernel_rfl) (by kernel_rfl) (by kernel_rfl) ?_
              refine pl_skip rfl (by kernel_rfl) (by kernel_rfl) (by kernel_rfl) ?_
              refine pl_skip rfl (by kernel_rfl) (by kernel_rfl) (by kernel_rfl) ?_
              refine pl_take (.bool false) rfl (by kernel_rfl) (by kernel_rfl) (by kernel_rfl) (by kernel_rfl) ?_
              refine pl_take (.bool false) rfl (by kernel_rfl) (by kernel_rfl) (by kernel_rfl) (by kernel_rfl) ?_
              refine pl_nil ?_
              refine qw_then ?_
              refine cw_clean [2] (ws' := [(2, .bool false)]) (by kernel_rfl) (fun L => ?_)
              refine cw_ret ?_
              refine qw_ret [.bool false] rfl ⟨(by kernel_rfl), trivial⟩ ?_
              exact ⟨congrArg (fun b => Ending.returned (Value.bool b)) (show Orb.ok o = false by simp [Orb.ok, hb5, hb10, hb47, hb51, hc9, hc55]).symm, hE⟩
          ·
            refine pl_step rfl (by kernel_rfl) (by kernel_rfl) (by kernel_rfl) (sn_call (f := 87) (args := #[.int .i64 (o.hi : Int), .int .i64 0, .int .i64 23999]) (by kernel_rfl) ((orbit_in_r (r := false) o.hi 0 23999 _ (hb51)).mono ?_))
            rintro e w56 ⟨rfl, hb⟩
            replace hE := hE.trans hb
            replace bO1_0 := BoxAt.ext hb bO1_0
            replace bO1_1 := BoxAt.ext hb bO1_1
            replace bO1_2 := BoxAt.ext hb bO1_2
            replace bO1_3 := BoxAt.ext hb bO1_3
            replace bO1_4 := BoxAt.ext hb bO1_4
            replace bO1_5 := BoxAt.ext hb bO1_5
            replace bO1_6 := BoxAt.ext hb bO1_6
            have hs57 := hb.size
            clear hb
            refine ⟨_, rfl, ?_⟩
            refine pl_take (.bool false) rfl (by kernel_rfl) (by kernel_rfl) (by kernel_rfl) (by kernel_rfl) ?_
            refine pl_take (.bool false) rfl (by kernel_rfl) (by kernel_rfl) (by kernel_rfl) (by kernel_rfl) ?_
            refine pl_skip rfl (by kernel_rfl) (by kernel_rfl) (by kernel_rfl) ?_
            refine pl_skip rfl (by kernel_rfl) (by kernel_rfl) (by kernel_rfl) ?_
            refine pl_skip rfl (by kernel_rfl) (by kernel_rfl) (by kernel_rfl) ?_
            refine pl_skip rfl (by kernel_rfl) (by kernel_rfl) (by kernel_rfl) ?_
            refine pl_skip rfl (by kernel_rfl) (by kernel_rfl) (by kernel_rfl) ?_
            refine pl_take (.bool false) rfl (by kernel_rfl) (by kernel_rfl) (by kernel_rfl) (by kernel_rfl) ?_
            refine pl_take (.bool false) rfl (by kernel_rfl) (by kernel_rfl) (by kernel_rfl) (by kernel_rfl) ?_
            refine pl_nil ?_
            refine qw_then ?_
            refine cw_clean [1, 3, 4] (ws' := [(1, .pointer (some ⟨O1, 0, none⟩)), (3, .bool false), (4, .bool false)]) (by kernel_rfl) (fun L => ?_)
            refine cw_seq ?_
            refine cw_plain ?_
            refine pl_take (.bool false) rfl (by kernel_rfl) (by kernel_rfl) (by kernel_rfl) (by kernel_rfl) ?_
            refine pl_take (.bool false) rfl (by kernel_rfl) (by kernel_rfl) (by kernel_rfl) (by kernel_rfl) ?_
            refine pl_skip rfl (by kernel_rfl) (by kernel_rfl) (by kernel_rfl) ?_
            refine pl_take (.bool false) rfl (by kernel_rfl) (by kernel_rfl) (by kernel_rfl) (by kernel_rfl) ?_
            refine pl_take (.bool false) rfl (by kernel_rfl) (by kernel_rfl) (by kernel_rfl) (by kernel_rfl) ?_
            refine pl_skip rfl (by kernel_rfl) (by kernel_rfl) (by kernel_rfl) ?_
            refine pl_skip rfl (by kernel_rfl) (by kernel_rfl) (by kernel_rfl) ?_
            refine pl_skip rfl (by kernel_rfl) (by kernel_rfl) (by kernel_rfl) ?_
            refine pl_take (.bool false) rfl (by kernel_rfl) (by kernel_rfl) (by kernel_rfl) (by kernel_rfl) ?_
            refine pl_take (.bool false) rfl (by kernel_rfl) (by kernel_rfl) (by kernel_rfl) (by kernel_rfl) ?_
            refine pl_skip rfl (by kernel_rfl) (by kernel_rfl) (by kernel_rfl) ?_
            refine pl_skip rfl (by kernel_rfl) (by kernel_rfl) (by kernel_rfl) ?_
            refine pl_skip rfl (by kernel_rfl) (by kernel_rfl) (by kernel_rfl) ?_
            refine pl_take (.bool false) rfl (by kernel_rfl) (by kernel_rfl) (by kernel_rfl) (by kernel_rfl) ?_
            refine pl_take (.bool false) rfl (by kernel_rfl) (by kernel_rfl) (by kernel_rfl) (by kernel_rfl) ?_
            refine pl_skip rfl (by kernel_rfl) (by kernel_rfl) (by kernel_rfl) ?_
            refine pl_skip rfl (by kernel_rfl) (by kernel_rfl) (by kernel_rfl) ?_
            refine pl_skip rfl (by kernel_rfl) (by kernel_rfl) (by kernel_rfl) ?_
            refine pl_take (.bool false) rfl (by kernel_rfl) (by kernel_rfl) (by kernel_rfl) (by kernel_rfl) ?_
            refine pl_take (.bool false) rfl (by kernel_rfl) (by kernel_rfl) (by kernel_rfl) (by kernel_rfl) ?_
            refine pl_nil ?_
            refine qw_then ?_
            refine cw_clean [2] (ws' := [(2, .bool false)]) (by kernel_rfl) (fun L => ?_)
            refine cw_ret ?_
            refine qw_ret [.bool false] rfl ⟨(by kernel_rfl), trivial⟩ ?_
            exact ⟨congrArg (fun b => Ending.returned (Value.bool b)) (show Orb.ok o = false by simp [Orb.ok, hb5, hb10, hb47, hb51, hc9]).symm, hE⟩
        ·
          refine pl_step rfl (by kernel_rfl) (by kernel_rfl) (by kernel_rfl) (sn_call (f := 87) (args := #[.int .i64 (o.lo : Int), .int .i64 0, .int .i64 23999]) (by kernel_rfl) ((orbit_in_r (r := false) o.lo 0 23999 _ (hb47)).mono ?_))
          rintro e w58 ⟨rfl, hb⟩
          replace hE := hE.trans hb
          replace bO1_0 := BoxAt.ext hb bO1_0
          replace bO1_1 := BoxAt.ext hb bO1_1
          replace bO1_2 := BoxAt.ext hb bO1_2
          replace bO1_3 := BoxAt.ext hb bO1_3
          replace bO1_4 := BoxAt.ext hb bO1_4
          replace bO1_5 := BoxAt.ext hb bO1_5
          replace bO1_6 := BoxAt.ext hb bO1_6
          have hs59 := hb.size
          clear hb
          refine ⟨_, rfl, ?_⟩
          refine pl_take (.bool false) rfl (by kernel_rfl) (by kernel_rfl) (by kernel_rfl) (by kernel_rfl) ?_
          refine pl_skip rfl (by kernel_rfl) (by kernel_rfl) (by kernel_rfl) ?_
          refine pl_skip rfl (by kernel_rfl) (by kernel_rfl) (by kernel_rfl) ?_
          refine pl_skip rfl (by kernel_rfl) (by kernel_rfl) (by kernel_rfl) ?_
          refine pl_take (.bool false) rfl (by kernel_rfl) (by kernel_rfl) (by kernel_rfl) (by kernel_rfl) ?_
          refine pl_take (.bool false) rfl (by kernel_rfl) (by kernel_rfl) (by kernel_rfl) (by kernel_rfl) ?_
          refine pl_skip rfl (by kernel_rfl) (by kernel_rfl) (by kernel_rfl) ?_
          refine pl_skip rfl (by kernel_rfl) (by kernel_rfl) (by kernel_rfl) ?_
          refine pl_skip rfl (by kernel_rfl) (by kernel_rfl) (by kernel_rfl) ?_
          refine pl_skip rfl (by kernel_rfl) (by kernel_rfl) (by kernel_rfl) ?_
          refine pl_skip rfl (by kernel_rfl) (by kernel_rfl) (by kernel_rfl) ?_
          refine pl_take (.bool false) rfl (by kernel_rfl) (by kernel_rfl) (by kernel_rfl) (by kernel_rfl) ?_
          refine pl_take (.bool false) rfl (by kernel_rfl) (by kernel_rfl) (by kernel_rfl) (by kernel_rfl) ?_
          refine pl_nil ?_
          refine qw_then ?_
          refine cw_clean [1, 3, 4] (ws' := [(1, .pointer (some ⟨O1, 0, none⟩)), (3, .bool false), (4, .bool false)]) (by kernel_rfl) (fun L => ?_)
          refine cw_seq ?_
          refine cw_plain ?_
          refine pl_take (.bool false) rfl (by kernel_rfl) (by kernel_rfl) (by kernel_rfl) (by kernel_rfl) ?_
          refine pl_take (.bool false) rfl (by kernel_rfl) (by kernel_rfl) (by kernel_rfl) (by kernel_rfl) ?_
          refine pl_skip rfl (by kernel_rfl) (by kernel_rfl) (by kernel_rfl) ?_
          refine pl_take (.bool false) rfl (by kernel_rfl) (by kernel_rfl) (by kernel_rfl) (by kernel_rfl) ?_
          refine pl_take (.bool false) rfl (by kernel_rfl) (by kernel_rfl) (by kernel_rfl) (by kernel_rfl) ?_
          refine pl_skip rfl (by kernel_rfl) (by kernel_rfl) (by kernel_rfl) ?_
          refine pl_skip rfl (by kernel_rfl) (by kernel_rfl) (by kernel_rfl) ?_
          refine pl_skip rfl (by kernel_rfl) (by kernel_rfl) (by kernel_rfl) ?_
          refine pl_take (.bool false) rfl (by kernel_rfl) (by kernel_rfl) (by kernel_rfl) (by kernel_rfl) ?_
          refine pl_take (.bool false) rfl (by kernel_rfl) (by kernel_rfl) (by kernel_rfl) (by kernel_rfl) ?_
          refine pl_skip rfl (by kernel_rfl) (by kernel_rfl) (by kernel_rfl) ?_
          refine pl_skip rfl (by kernel_rfl) (by kernel_rfl) (by kernel_rfl) ?_
          refine pl_skip rfl (by kernel_rfl) (by kernel_rfl) (by kernel_rfl) ?_
          refine pl_take (.bool false) rfl (by kernel_rfl) (by kernel_rfl) (by kernel_rfl) (by kernel_rfl) ?_
          refine pl_take (.bool false) rfl (by kernel_rfl) (by kernel_rfl) (by kernel_rfl) (by kernel_rfl) ?_
          refine pl_skip rfl (by kernel_rfl) (by kernel_rfl) (by kernel_rfl) ?_
          refine pl_skip rfl (by kernel_rfl) (by kernel_rfl) (by kernel_rfl) ?_
          refine pl_skip rfl (by kernel_rfl) (by kernel_rfl) (by kernel_rfl) ?_
          refine pl_take (.bool false) rfl (by kernel_rfl) (by kernel_rfl) (by kernel_rfl) (by kernel_rfl) ?_
          refine pl_take (.bool false) rfl (by kernel_rfl) (by kernel_rfl) (by kernel_rfl) (by kernel_rfl) ?_
          refine pl_nil ?_
          refine qw_then ?_
          refine cw_clean [2] (ws' := [(2, .bool false)]) (by kernel_rfl) (fun L => ?_)
          refine cw_ret ?_
          refine qw_ret [.bool false] rfl ⟨(by kernel_rfl), trivial⟩ ?_
          exact ⟨congrArg (fun b => Ending.returned (Value.bool b)) (show Orb.ok o = false by simp [Orb.ok, hb5, hb10, hb47, hc9]).symm, hE⟩
    ·
      refine pl_take (.bool false) rfl (by kernel_rfl) (by kernel_rfl) (by kernel_rfl) (ev_neq (show _ = Result.ok (Next.value (Value.bool (((o.p : Int).tmod 2 : Int) == (0 : Int)))) _ from by kernel_rfl) (hc9)) ?_
      refine pl_take (.bool false) rfl (by kernel_rfl) (by kernel_rfl) (by kernel_rfl) (by kernel_rfl) ?_
      refine pl_take (.bool false) rfl (by kernel_rfl) (by kernel_rfl) (by kernel_rfl) (by kernel_rfl) ?_
      refine pl_skip rfl (by kernel_rfl) (by kernel_rfl) (by kernel_rfl) ?_
      refine pl_skip rfl (by kernel_rfl) (by kernel_rfl) (by kernel_rfl) ?_
      refine pl_skip rfl (by kernel_rfl) (by kernel_rfl) (by kernel_rfl) ?_
      refine pl_skip rfl (by kernel_rfl) (by kernel_rfl) (by kernel_rfl) ?_
      refine pl_skip rfl (by kernel_rfl) (by kernel_rfl) (by kernel_rfl) ?_
      refine pl_skip rfl (by kernel_rfl) (by kernel_rfl) (by kernel_rfl) ?_
      refine pl_take (.bool false) rfl (by kernel_rfl) (by kernel_rfl) (by kernel_rfl) (by kernel_rfl) ?_
      refine pl_take (.bool false) rfl (by kernel_rfl) (by kernel_rfl) (by kernel_rfl) (by kernel_rfl) ?_
      refine pl_nil ?_
      refine qw_then ?_
      refine cw_clean [1, 3] (ws' := [(1, .pointer (some ⟨O1, 0, none⟩)), (3, .bool false)]) (by kernel_rfl) (fun L => ?_)
      refine cw_seq ?_
      refine cw_plain ?_
      refine pl_take (.pointer (some ⟨O1, 2, none⟩)) rfl (by kernel_rfl) (by kernel_rfl) (by kernel_rfl) (by kernel_rfl) ?_
      refine pl_take (.int .i64 (o.lo : Int)) rfl (by kernel_rfl) (by kernel_rfl) (by kernel_rfl) (ex_load rfl (by kernel_rfl) (ld3 (bO1_2.1))) ?_
      rcases Bool.eq_false_or_eq_true (Globe.inB o.lo 0 23999) with hb60 | hb60
      ·
        have hq61 := Globe.inB_t.1 hb60
        refine pl_step rfl (by kernel_rfl) (by kernel_rfl) (by kernel_rfl) (sn_call (f := 87) (args := #[.int .i64 (o.lo : Int), .int .i64 0, .int .i64 23999]) (by kernel_rfl) ((orbit_in_r (r := true) o.lo 0 23999 _ (hb60)).mono ?_))
        rintro e w62 ⟨rfl, hb⟩
        replace hE := hE.trans hb
        replace bO1_0 := BoxAt.ext hb bO1_0
        replace bO1_1 := BoxAt.ext hb bO1_1
        replace bO1_2 := BoxAt.ext hb bO1_2
        replace bO1_3 := BoxAt.ext hb bO1_3
        replace bO1_4 := BoxAt.ext hb bO1_4
        replace bO1_5 := BoxAt.ext hb bO1_5
        replace bO1_6 := BoxAt.ext hb bO1_6
        have hs63 := hb.size
        clear hb
        refine ⟨_, rfl, ?_⟩
        refine pl_take (.bool true) rfl (by kernel_rfl) (by kernel_rfl) (by kernel_rfl) (by kernel_rfl) ?_
        refine pl_take (.pointer (some ⟨O1, 3, none⟩)) rfl (by kernel_rfl) (by kernel_rfl) (by kernel_rfl) (by kernel_rfl) ?_
        refine pl_take (.int .i64 (o.hi : Int)) rfl (by kernel_rfl) (by kernel_rfl) (by kernel_rfl) (ex_load rfl (by kernel_rfl) (ld3 (bO1_3.1))) ?_
        rcases Bool.eq_false_or_eq_true (Globe.inB o.hi 0 23999) with hb64 | hb64
        ·
          have hq65 := Globe.inB_t.1 hb64
          refine pl_step rfl (by kernel_rfl) (by kernel_rfl) (by kernel_rfl) (sn_call (f := 87) (args := #[.int .i64 (o.hi : Int), .int .i64 0, .int .i64 23999]) (by kernel_rfl) ((orbit_in_r (r := true) o.hi 0 23999 _ (hb64)).mono ?_))
          rintro e w66 ⟨rfl, hb⟩
          replace hE := hE.trans hb
          replace bO1_0 := BoxAt.ext hb bO1_0
          replace bO1_1 := BoxAt.ext hb bO1_1
          replace bO1_2 := BoxAt.ext hb bO1_2
          replace bO1_3 := BoxAt.ext hb bO1_3
          replace bO1_4 := BoxAt.ext hb bO1_4
          replace bO1_5 := BoxAt.ext hb bO1_5
          replace bO1_6 := BoxAt.ext hb bO1_6
          have hs67 := hb.size
          clear hb
          refine ⟨_, rfl, ?_⟩
          refine pl_take (.bool true) rfl (by kernel_rfl) (by kernel_rfl) (by kernel_rfl) (by kernel_rfl) ?_
          refine pl_take (.bool true) rfl (by kernel_rfl) (by kernel_rfl) (by kernel_rfl) (by kernel_rfl) ?_
          refine pl_take (.pointer (some ⟨O1, 2, none⟩)) rfl (by kernel_rfl) (by kernel_rfl) (by kernel_rfl) (by kernel_rfl) ?_
          refine pl_take (.int .i64 (o.lo : Int)) rfl (by kernel_rfl) (by kernel_rfl) (by kernel_rfl) (ex_load rfl (by kernel_rfl) (ld3 (bO1_2.1))) ?_
          refine pl_take (.pointer (some ⟨O1, 3, none⟩)) rfl (by kernel_rfl) (by kernel_rfl) (by kernel_rfl) (by kernel_rfl) ?_
          refine pl_take (.int .i64 (o.hi : Int)) rfl (by kernel_rfl) (by kernel_rfl) (by kernel_rfl) (ex_load rfl (by kernel_rfl) (ld3 (bO1_3.1))) ?_
          by_cases hc68 : (o.lo : Int) < (o.hi : Int)
          ·
            refine pl_take (.bool true) rfl (by kernel_rfl) (by kernel_rfl) (by kernel_rfl) (ev_dec (show _ = Result.ok (Next.value (Value.bool (decide ((o.lo : Int) < (o.hi : Int))))) _ from by kernel_rfl) (hc68)) ?_
            refine pl_take (.bool true) rfl (by kernel_rfl) (by kernel_rfl) (by kernel_rfl) (by kernel_rfl) ?_
            refine pl_take (.bool true) rfl (by kernel_rfl) (by kernel_rfl) (by kernel_rfl) (by kernel_rfl) ?_
            refine pl_nil ?_
            refine qw_then ?_
            refine cw_clean [1, 3, 4] (ws' := [(1, .pointer (some ⟨O1, 0, none⟩)), (3, .bool false), (4, .bool true)]) (by kernel_rfl) (fun L => ?_)
            refine cw_seq ?_
            refine cw_plain ?_
            refine pl_take (.bool false) rfl (by kernel_rfl) (by kernel_rfl) (by kernel_rfl) (by kernel_rfl) ?_
            refine pl_take (.bool false) rfl (by kernel_rfl) (by kernel_rfl) (by kernel_rfl) (by kernel_rfl) ?_
            refine pl_skip rfl (by kernel_rfl) (by kernel_rfl) (by kernel_rfl) ?_
            refine pl_take (.bool false) rfl (by kernel_rfl) (by kernel_rfl) (by kernel_rfl) (by kernel_rfl) ?_
            refine pl_take (.bool false) rfl (by kernel_rfl) (by kernel_rfl) (by kernel_rfl) (by kernel_rfl) ?_
            refine pl_skip rfl (by kernel_rfl) (by kernel_rfl) (by kernel_rfl) ?_
            refine pl_skip rfl (by kernel_rfl) (by kernel_rfl) (by kernel_rfl) ?_
            refine pl_skip rfl (by kernel_rfl) (by kernel_rfl) (by kernel_rfl) ?_
            refine pl_take (.bool false) rfl (by kernel_rfl) (by kernel_rfl) (by kernel_rfl) (by kernel_rfl) ?_
            refine pl_take (.bool false) rfl (by kernel_rfl) (by kernel_rfl) (by kernel_rfl) (by kernel_rfl) ?_
            refine pl_skip rfl (by kernel_rfl) (by kernel_rfl) (by kernel_rfl) ?_
            refine pl_skip rfl (by kernel_rfl) (by kernel_rfl) (by kernel_rfl) ?_
            refine pl_skip rfl (by kernel_rfl) (by kernel_rfl) (by kernel_rfl) ?_
            refine pl_take (.bool false) rfl (by kernel_rfl) (by kernel_rfl) (by kernel_rfl) (by kernel_rfl) ?_
            refine pl_take (.bool false) rfl (by kernel_rfl) (by kernel_rfl) (by kernel_rfl) (by kernel_rfl) ?_
            refine pl_skip rfl (by kernel_rfl) (by kernel_rfl) (by kernel_rfl) ?_
            refine pl_skip rfl (by kernel_rfl) (by kernel_rfl) (by kernel_rfl) ?_
            refine pl_skip rfl (by kernel_rfl) (by kernel_rfl) (by kernel_rfl) ?_
            refine pl_take (.bool false) rfl (by kernel_rfl) (by kernel_rfl) (by kernel_rfl) (by kernel_rfl) ?_
            refine pl_take (.bool false) rfl (by kernel_rfl) (by kernel_rfl) (by kernel_rfl) (by kernel_rfl) ?_
            refine pl_nil ?_
            refine qw_then ?_
            refine cw_clean [2] (ws' := [(2, .bool false)]) (by kernel_rfl) (fun L => ?_)
            refine cw_ret ?_
            refine qw_ret [.bool false] rfl ⟨(by kernel_rfl), trivial⟩ ?_
            exact ⟨congrArg (fun b => Ending.returned (Value.bool b)) (show Orb.ok o = false by simp [Orb.ok, hb5, hb60, hb64, hc9, hc68]).symm, hE⟩
          ·
            refine pl_take (.bool false) rfl (by kernel_rfl) (by kernel_rfl) (by kernel_rfl) (ev_ndec (show _ = Result.ok (Next.value (Value.bool (decide ((o.lo : Int) < (o.hi : Int))))) _ from by kernel_rfl) (hc68)) ?_
            refine pl_take (.bool false) rfl (by kernel_rfl) (by kernel_rfl) (by kernel_rfl) (by kernel_rfl) ?_
            refine pl_take (.bool false) rfl (by kernel_rfl) (by kernel_rfl) (by kernel_rfl) (by kernel_rfl) ?_
            refine pl_nil ?_
            refine qw_then ?_
            refine cw_clean [1, 3, 4] (ws' := [(1, .pointer (some ⟨O1, 0, none⟩)), (3, .bool false), (4, .bool false)]) (by kernel_rfl) (fun L => ?_)
            refine cw_seq ?_
            refine cw_plain ?_
            refine pl_take (.bool false) rfl (by kernel_rfl) (by kernel_rfl) (by kernel_rfl) (by kernel_rfl) ?_
            refine pl_take (.bool false) rfl (by kernel_rfl) (by kernel_rfl) (by kernel_rfl) (by kernel_rfl) ?_
            refine pl_skip rfl (by kernel_rfl) (by kernel_rfl) (by kernel_rfl) ?_
            refine pl_take (.bool false) rfl (by kernel_rfl) (by kernel_rfl) (by kernel_rfl) (by kernel_rfl) ?_
            refine pl_take (.bool false) rfl (by kernel_rfl) (by kernel_rfl) (by kernel_rfl) (by kernel_rfl) ?_
            refine pl_skip rfl (by kernel_rfl) (by kernel_rfl) (by kernel_rfl) ?_
            refine pl_skip rfl (by kernel_rfl) (by kernel_rfl) (by kernel_rfl) ?_
            refine pl_skip rfl (by kernel_rfl) (by kernel_rfl) (by kernel_rfl) ?_
            refine pl_take (.bool false) rfl (by kernel_rfl) (by kernel_rfl) (by kernel_rfl) (by kernel_rfl) ?_
            refine pl_take (.bool false) rfl (by kernel_rfl) (by kernel_rfl) (by kernel_rfl) (by kernel_rfl) ?_
            refine pl_skip rfl (by kernel_rfl) (by kernel_rfl) (by kernel_rfl) ?_
            refine pl_skip rfl (by kernel_rfl) (by kernel_rfl) (by kernel_rfl) ?_
            refine pl_skip rfl (by kernel_rfl) (by kernel_rfl) (by kernel_rfl) ?_
            refine pl_take (.bool false) rfl (by kernel_rfl) (by kernel_rfl) (by kernel_rfl) (by kernel_rfl) ?_
            refine pl_take (.bool false) rfl (by kernel_rfl) (by kernel_rfl) (by kernel_rfl) (by kernel_rfl) ?_
            refine pl_skip rfl (by kernel_rfl) (by kernel_rfl) (by kernel_rfl) ?_
            refine pl_skip rfl (by kernel_rfl) (by kernel_rfl) (by kernel_rfl) ?_
            refine pl_skip rfl (by kernel_rfl) (by kernel_rfl) (by kernel_rfl) ?_
            refine pl_take (.bool false) rfl (by kernel_rfl) (by kernel_rfl) (by kernel_rfl) (by kernel_rfl) ?_
            refine pl_take (.bool false) rfl (by kernel_rfl) (by kernel_rfl) (by kernel_rfl) (by kernel_rfl) ?_
            refine pl_nil ?_
            refine qw_then ?_
            refine cw_clean [2] (ws' := [(2, .bool false)]) (by kernel_rfl) (fun L => ?_)
            refine cw_ret ?_
            refine qw_ret [.bool false] rfl ⟨(by kernel_rfl), trivial⟩ ?_
            exact ⟨congrArg (fun b => Ending.returned (Value.bool b)) (show Orb.ok o = false by simp [Orb.ok, hb5, hb60, hb64, hc68]).symm, hE⟩
        ·
          refine pl_step rfl (by kernel_rfl) (by kernel_rfl) (by kernel_rfl) (sn_call (f := 87) (args := #[.int .i64 (o.hi : Int), .int .i64 0, .int .i64 23999]) (by kernel_rfl) ((orbit_in_r (r := false) o.hi 0 23999 _ (hb64)).mono ?_))
          rintro e w69 ⟨rfl, hb⟩
          replace hE := hE.trans hb
          replace bO1_0 := BoxAt.ext hb bO1_0
          replace bO1_1 := BoxAt.ext hb bO1_1
          replace bO1_2 := BoxAt.ext hb bO1_2
          replace bO1_3 := BoxAt.ext hb bO1_3
          replace bO1_4 := BoxAt.ext hb bO1_4
          replace bO1_5 := BoxAt.ext hb bO1_5
          replace bO1_6 := BoxAt.ext hb bO1_6
          have hs70 := hb.size
          clear hb
          refine ⟨_, rfl, ?_⟩
          refine pl_take (.bool false) rfl (by kernel_rfl) (by kernel_rfl) (by kernel_rfl) (by kernel_rfl) ?_
          refine pl_take (.bool false) rfl (by kernel_rfl) (by kernel_rfl) (by kernel_rfl) (by kernel_rfl) ?_
          refine pl_skip rfl (by kernel_rfl) (by kernel_rfl) (by kernel_rfl) ?_
          refine pl_skip rfl (by kernel_rfl) (by kernel_rfl) (by kernel_rfl) ?_
          refine pl_skip rfl (by kernel_rfl) (by kernel_rfl) (by kernel_rfl) ?_
          refine pl_skip rfl (by kernel_rfl) (by kernel_rfl) (by kernel_rfl) ?_
          refine pl_skip rfl (by kernel_rfl) (by kernel_rfl) (by kernel_rfl) ?_
          refine pl_take (.bool false) rfl (by kernel_rfl) (by kernel_rfl) (by kernel_rfl) (by kernel_rfl) ?_
          refine pl_take (.bool false) rfl (by kernel_rfl) (by kernel_rfl) (by kernel_rfl) (by kernel_rfl) ?_
          refine pl_nil ?_
          refine qw_then ?_
          refine cw_clean [1, 3, 4] (ws' := [(1, .pointer (some ⟨O1, 0, none⟩)), (3, .bool false), (4, .bool false)]) (by kernel_rfl) (fun L => ?_)
          refine cw_seq ?_
          refine cw_plain ?_
          refine pl_take (.bool false) rfl (by kernel_rfl) (by kernel_rfl) (by kernel_rfl) (by kernel_rfl) ?_
          refine pl_take (.bool false) rfl (by kernel_rfl) (by kernel_rfl) (by kernel_rfl) (by kernel_rfl) ?_
          refine pl_skip rfl (by kernel_rfl) (by kernel_rfl) (by kernel_rfl) ?_
          refine pl_take (.bool false) rfl (by kernel_rfl) (by kernel_rfl) (by kernel_rfl) (by kernel_rfl) ?_
          refine pl_take (.bool false) rfl (by kernel_rfl) (by kernel_rfl) (by kernel_rfl) (by kernel_rfl) ?_
          refine pl_skip rfl (by kernel_rfl) (by kernel_rfl) (by kernel_rfl) ?_
          refine pl_skip rfl (by kernel_rfl) (by kernel_rfl) (by kernel_rfl) ?_
          refine pl_skip rfl (by kernel_rfl) (by kernel_rfl) (by kernel_rfl) ?_
          refine pl_take (.bool false) rfl (by kernel_rfl) (by kernel_rfl) (by kernel_rfl) (by kernel_rfl) ?_
          refine pl_take (.bool false) rfl (by kernel_rfl) (by kernel_rfl) (by kernel_rfl) (by kernel_rfl) ?_
          refine pl_skip rfl (by kernel_rfl) (by kernel_rfl) (by kernel_rfl) ?_
          refine pl_skip rfl (by kernel_rfl) (by kernel_rfl) (by kernel_rfl) ?_
          refine pl_skip rfl (by kernel_rfl) (by kernel_rfl) (by kernel_rfl) ?_
          refine pl_take (.bool false) rfl (by kernel_rfl) (by kernel_rfl) (by kernel_rfl) (by kernel_rfl) ?_
          refine pl_take (.bool false) rfl (by kernel_rfl) (by kernel_rfl) (by kernel_rfl) (by kernel_rfl) ?_
          refine pl_skip rfl (by kernel_rfl) (by kernel_rfl) (by kernel_rfl) ?_
          refine pl_skip rfl (by kernel_rfl) (by kernel_rfl) (by kernel_rfl) ?_
          refine pl_skip rfl (by kernel_rfl) (by kernel_rfl) (by kernel_rfl) ?_
          refine pl_take (.bool false) rfl (by kernel_rfl) (by kernel_rfl) (by kernel_rfl) (by kernel_rfl) ?_
          refine pl_take (.bool false) rfl (by kernel_rfl) (by kernel_rfl) (by kernel_rfl) (by kernel_rfl) ?_
          refine pl_nil ?_
          refine qw_then ?_
          refine cw_clean [2] (ws' := [(2, .bool false)]) (by kernel_rfl) (fun L => ?_)
          refine cw_ret ?_
          refine qw_ret [.bool false] rfl ⟨(by kernel_rfl), trivial⟩ ?_
          exact ⟨congrArg (fun b => Ending.returned (Value.bool b)) (show Orb.ok o = false by simp [Orb.ok, hb5, hb60, hb64]).symm, hE⟩
      ·
        refine pl_step rfl (by kernel_rfl) (by kernel_rfl) (by kernel_rfl) (sn_call (f := 87) (args := #[.int .i64 (o.lo : Int), .int .i64 0, .int .i64 23999]) (by kernel_rfl) ((orbit_in_r (r := false) o.lo 0 23999 _ (hb60)).mono ?_))
        rintro e w71 ⟨rfl, hb⟩
        replace hE := hE.trans hb
        replace bO1_0 := BoxAt.ext hb bO1_0
        replace bO1_1 := BoxAt.ext hb bO1_1
        replace bO1_2 := BoxAt.ext hb bO1_2
        replace bO1_3 := BoxAt.ext hb bO1_3
        replace bO1_4 := BoxAt.ext hb bO1_4
        replace bO1_5 := BoxAt.ext hb bO1_5
        replace bO1_6 := BoxAt.ext hb bO1_6
        have hs72 := hb.size
        clear hb
        refine ⟨_, rfl, ?_⟩
        refine pl_take (.bool false) rfl (by kernel_rfl) (by kernel_rfl) (by kernel_rfl) (by kernel_rfl) ?_
        refine pl_skip rfl (by kernel_rfl) (by kernel_rfl) (by kernel_rfl) ?_
        refine pl_skip rfl (by kernel_rfl) (by kernel_rfl) (by kernel_rfl) ?_
        refine pl_skip rfl (by kernel_rfl) (by kernel_rfl) (by kernel_rfl) ?_
        refine pl_take (.bool false) rfl (by kernel_rfl) (by kernel_rfl) (by kernel_rfl) (by kernel_rfl) ?_
        refine pl_take (.bool false) rfl (by kernel_rfl) (by kernel_rfl) (by kernel_rfl) (by kernel_rfl) ?_
        refine pl_skip rfl (by kernel_rfl) (by kernel_rfl) (by kernel_rfl) ?_
        refine pl_skip rfl (by kernel_rfl) (by kernel_rfl) (by kernel_rfl) ?_
        refine pl_skip rfl (by kernel_rfl) (by kernel_rfl) (by kernel_rfl) ?_
        refine pl_skip rfl (by kernel_rfl) (by kernel_rfl) (by kernel_rfl) ?_
        refine pl_skip rfl (by kernel_rfl) (by kernel_rfl) (by kernel_rfl) ?_
        refine pl_take (.bool false) rfl (by kernel_rfl) (by kernel_rfl) (by kernel_rfl) (by kernel_rfl) ?_
        refine pl_take (.bool false) rfl (by kernel_rfl) (by kernel_rfl) (by kernel_rfl) (by kernel_rfl) ?_
        refine pl_nil ?_
        refine qw_then ?_
        refine cw_clean [1, 3, 4] (ws' := [(1, .pointer (some ⟨O1, 0, none⟩)), (3, .bool false), (4, .bool false)]) (by kernel_rfl) (fun L => ?_)
        refine cw_seq ?_
        refine cw_plain ?_
        refine pl_take (.bool false) rfl (by kernel_rfl) (by kernel_rfl) (by kernel_rfl) (by kernel_rfl) ?_
        refine pl_take (.bool false) rfl (by kernel_rfl) (by kernel_rfl) (by kernel_rfl) (by kernel_rfl) ?_
        refine pl_skip rfl (by kernel_rfl) (by kernel_rfl) (by kernel_rfl) ?_
        refine pl_take (.bool false) rfl (by kernel_rfl) (by kernel_rfl) (by kernel_rfl) (by kernel_rfl) ?_
        refine pl_take (.bool false) rfl (by kernel_rfl) (by kernel_rfl) (by kernel_rfl) (by kernel_rfl) ?_
        refine pl_skip rfl (by kernel_rfl) (by kernel_rfl) (by kernel_rfl) ?_
        refine pl_skip rfl (by kernel_rfl) (by kernel_rfl) (by kernel_rfl) ?_
        refine pl_skip rfl (by kernel_rfl) (by kernel_rfl) (by kernel_rfl) ?_
        refine pl_take (.bool false) rfl (by kernel_rfl) (by kernel_rfl) (by kernel_rfl) (by kernel_rfl) ?_
        refine pl_take (.bool false) rfl (by kernel_rfl) (by kernel_rfl) (by kernel_rfl) (by kernel_rfl) ?_
        refine pl_skip rfl (by kernel_rfl) (by kernel_rfl) (by kernel_rfl) ?_
        refine pl_skip rfl (by kernel_rfl) (by kernel_rfl) (by kernel_rfl) ?_
        refine pl_skip rfl (by kernel_rfl) (by kernel_rfl) (by kernel_rfl) ?_
        refine pl_take (.bool false) rfl (by kernel_rfl) (by kernel_rfl) (by kernel_rfl) (by kernel_rfl) ?_
        refine pl_take (.bool false) rfl (by kernel_rfl) (by kernel_rfl) (by kernel_rfl) (by kernel_rfl) ?_
        refine pl_skip rfl (by kernel_rfl) (by kernel_rfl) (by kernel_rfl) ?_
        refine pl_skip rfl (by kernel_rfl) (by kernel_rfl) (by kernel_rfl) ?_
        refine pl_skip rfl (by kernel_rfl) (by kernel_rfl) (by kernel_rfl) ?_
        refine pl_take (.bool false) rfl (by kernel_rfl) (by kernel_rfl) (by kernel_rfl) (by kernel_rfl) ?_
        refine pl_take (.bool false) rfl (by kernel_rfl) (by kernel_rfl) (by kernel_rfl) (by kernel_rfl) ?_
        refine pl_nil ?_
        refine qw_then ?_
        refine cw_clean [2] (ws' := [(2, .bool false)]) (by kernel_rfl) (fun L => ?_)
        refine cw_ret ?_
        refine qw_ret [.bool false] rfl ⟨(by kernel_rfl), trivial⟩ ?_
        exact ⟨congrArg (fun b => Ending.returned (Value.bool b)) (show Orb.ok o = false by simp [Orb.ok, hb5, hb60]).symm, hE⟩
  ·
    refine pl_step rfl (by kernel_rfl) (by kernel_rfl) (by kernel_rfl) (sn_call (f := 87) (args := #[.int .i64 (o.p : Int), .int .i64 20, .int .i64 2000]) (by kernel_rfl) ((orbit_in_r (r := false) o.p 20 2000 _ (hb5)).mono ?_))
    rintro e w73 ⟨rfl, hb⟩
    replace hE := hE.trans hb
    replace bO1_0 := BoxAt.ext hb bO1_0
    replace bO1_1 := BoxAt.ext hb bO1_1
    replace bO1_2 := BoxAt.ext hb bO1_2
    replace bO1_3 := BoxAt.ext hb bO1_3
    replace bO1_4 := BoxAt.ext hb bO1_4
    replace bO1_5 := BoxAt.ext hb bO1_5
    replace bO1_6 := BoxAt.ext hb bO1_6
    have hs74 := hb.size
    clear hb
    refine ⟨_, rfl, ?_⟩
    refine pl_take (.bool false) rfl (by kernel_rfl) (by kernel_rfl) (by kernel_rfl) (by kernel_rfl) ?_
    refine pl_skip rfl (by kernel_rfl) (by kernel_rfl) (by kernel_rfl) ?_
    refine pl_skip rfl (by kernel_rfl) (by kernel_rfl) (by kernel_rfl) ?_
    refine pl_skip rfl (by kernel_rfl) (by kernel_rfl) (by kernel_rfl) ?_
    refine pl_skip rfl (by kernel_rfl) (by kernel_rfl) (by kernel_rfl) ?_
    refine pl_take (.bool false) rfl (by kernel_rfl) (by kernel_rfl) (by kernel_rfl) (by kernel_rfl) ?_
    refine pl_take (.bool false) rfl (by kernel_rfl) (by kernel_rfl) (by kernel_rfl) (by kernel_rfl) ?_
    refine pl_skip rfl (by kernel_rfl) (by kernel_rfl) (by kernel_rfl) ?_
    refine pl_skip rfl (by kernel_rfl) (by kernel_rfl) (by kernel_rfl) ?_
    refine pl_skip rfl (by kernel_rfl) (by kernel_rfl) (by kernel_rfl) ?_
    refine pl_skip rfl (by kernel_rfl) (by kernel_rfl) (by kernel_rfl) ?_
    refine pl_skip rfl (by kernel_rfl) (by kernel_rfl) (by kernel_rfl) ?_
    refine pl_skip rfl (by kernel_rfl) (by kernel_rfl) (by kernel_rfl) ?_
    refine pl_take (.bool false) rfl (by kernel_rfl) (by kernel_rfl) (by kernel_rfl) (by kernel_rfl) ?_
    refine pl_take (.bool false) rfl (by kernel_rfl) (by kernel_rfl) (by kernel_rfl) (by kernel_rfl) ?_
    refine pl_nil ?_
    refine qw_then ?_
    refine cw_clean [1, 3] (ws' := [(1, .pointer (some ⟨O1, 0, none⟩)), (3, .bool false)]) (by kernel_rfl) (fun L => ?_)
    refine cw_seq ?_
    refine cw_plain ?_
    refine pl_take (.pointer (some ⟨O1, 2, none⟩)) rfl (by kernel_rfl) (by kernel_rfl) (by kernel_rfl) (by kernel_rfl) ?_
    refine pl_take (.int .i64 (o.lo : Int)) rfl (by kernel_rfl) (by kernel_rfl) (by kernel_rfl) (ex_load rfl (by kernel_rfl) (ld3 (bO1_2.1))) ?_
    rcases Bool.eq_false_or_eq_true (Globe.inB o.lo 0 23999) with hb75 | hb75
    ·
      have hq76 := Globe.inB_t.1 hb75
      refine pl_step rfl (by kernel_rfl) (by kernel_rfl) (by kernel_rfl) (sn_call (f := 87) (args := #[.int .i64 (o.lo : Int), .int .i64 0, .int .i64 23999]) (by kernel_rfl) ((orbit_in_r (r := true) o.lo 0 23999 _ (hb75)).mono ?_))
      rintro e w77 ⟨rfl, hb⟩
      replace hE := hE.trans hb
      replace bO1_0 := BoxAt.ext hb bO1_0
      replace bO1_1 := BoxAt.ext hb bO1_1
      replace bO1_2 := BoxAt.ext hb bO1_2
      replace bO1_3 := BoxAt.ext hb bO1_3
      replace bO1_4 := BoxAt.ext hb bO1_4
      replace bO1_5 := BoxAt.ext hb bO1_5
      replace bO1_6 := BoxAt.ext hb bO1_6
      have hs78 := hb.size
      clear hb
      refine ⟨_, rfl, ?_⟩
      refine pl_take (.bool true) rfl (by kernel_rfl) (by kernel_rfl) (by kernel_rfl) (by kernel_rfl) ?_
      refine pl_take (.pointer (some ⟨O1, 3, none⟩)) rfl (by kernel_rfl) (by kernel_rfl) (by kernel_rfl) (by kernel_rfl) ?_
      refine pl_take (.int .i64 (o.hi : Int)) rfl (by kernel_rfl) (by kernel_rfl) (by kernel_rfl) (ex_load rfl (by kernel_rfl) (ld3 (bO1_3.1))) ?_
      rcases Bool.eq_false_or_eq_true (Globe.inB o.hi 0 23999) with hb79 | hb79
      ·
        have hq80 := Globe.inB_t.1 hb79
        refine pl_step rfl (by kernel_rfl) (by kernel_rfl) (by kernel_rfl) (sn_call (f := 87) (args := #[.int .i64 (o.hi : Int), .int .i64 0, .int .i64 23999]) (by kernel_rfl) ((orbit_in_r (r := true) o.hi 0 23999 _ (hb79)).mono ?_))
        rintro e w81 ⟨rfl, hb⟩
        replace hE := hE.trans hb
        replace bO1_0 := BoxAt.ext hb bO1_0
        replace bO1_1 := BoxAt.ext hb bO1_1
        replace bO1_2 := BoxAt.ext hb bO1_2
        replace bO1_3 := BoxAt.ext hb bO1_3
        replace bO1_4 := BoxAt.ext hb bO1_4
        replace bO1_5 := BoxAt.ext hb bO1_5
        replace bO1_6 := BoxAt.ext hb bO1_6
        have hs82 := hb.size
        clear hb
        refine ⟨_, rfl, ?_⟩
        refine pl_take (.bool true) rfl (by kernel_rfl) (by kernel_rfl) (by kernel_rfl) (by kernel_rfl) ?_
        refine pl_take (.bool true) rfl (by kernel_rfl) (by kernel_rfl) (by kernel_rfl) (by kernel_rfl) ?_
        refine pl_take (.pointer (some ⟨O1, 2, none⟩)) rfl (by kernel_rfl) (by kernel_rfl) (by kernel_rfl) (by kernel_rfl) ?_
        refine pl_take (.int .i64 (o.lo : Int)) rfl (by kernel_rfl) (by kernel_rfl) (by kernel_rfl) (ex_load rfl (by kernel_rfl) (ld3 (bO1_2.1))) ?_
        refine pl_take (.pointer (some ⟨O1, 3, none⟩)) rfl (by kernel_rfl) (by kernel_rfl) (by kernel_rfl) (by kernel_rfl) ?_
        refine pl_take (.int .i64 (o.hi : Int)) rfl (by kernel_rfl) (by kernel_rfl) (by kernel_rfl) (ex_load rfl (by kernel_rfl) (ld3 (bO1_3.1))) ?_
        by_cases hc83 : (o.lo : Int) < (o.hi : Int)
        ·
          refine pl_take (.bool true) rfl (by kernel_rfl) (by kernel_rfl) (by kernel_rfl) (ev_dec (show _ = Result.ok (Next.value (Value.bool (decide ((o.lo : Int) < (o.hi : Int))))) _ from by kernel_rfl) (hc83)) ?_
          refine pl_take (.bool true) rfl (by kernel_rfl) (by kernel_rfl) (by kernel_rfl) (by kernel_rfl) ?_
          refine pl_take (.bool true) rfl (by kernel_rfl) (by kernel_rfl) (by kernel_rfl) (by kernel_rfl) ?_
          refine pl_nil ?_
          refine qw_then ?_
          refine cw_clean [1, 3, 4] (ws' := [(1, .pointer (some ⟨O1, 0, none⟩)), (3, .bool false), (4, .bool true)]) (by kernel_rfl) (fun L => ?_)
          refine cw_seq ?_
          refine cw_plain ?_
          refine pl_take (.bool false) rfl (by kernel_rfl) (by kernel_rfl) (by kernel_rfl) (by kernel_rfl) ?_
          refine pl_take (.bool false) rfl (by kernel_rfl) (by kernel_rfl) (by kernel_rfl) (by kernel_rfl) ?_
          refine pl_skip rfl (by kernel_rfl) (by kernel_rfl) (by kernel_rfl) ?_
          refine pl_take (.bool false) rfl (by kernel_rfl) (by kernel_rfl) (by kernel_rfl) (by kernel_rfl) ?_
          refine pl_take (.bool false) rfl (by kernel_rfl) (by kernel_rfl) (by kernel_rfl) (by kernel_rfl) ?_
          refine pl_skip rfl (by kernel_rfl) (by kernel_rfl) (by kernel_rfl) ?_
          refine pl_skip rfl (by kernel_rfl) (by kernel_rfl) (by kernel_rfl) ?_
          refine pl_skip rfl (by kernel_rfl) (by kernel_rfl) (by kernel_rfl) ?_
          refine pl_take (.bool false) rfl (by kernel_rfl) (by kernel_rfl) (by kernel_rfl) (by kernel_rfl) ?_
          refine pl_take (.bool false) rfl (by kernel_rfl) (by kernel_rfl) (by kernel_rfl) (by kernel_rfl) ?_
          refine pl_skip rfl (by kernel_rfl) (by kernel_rfl) (by kernel_rfl) ?_
          refine pl_skip rfl (by kernel_rfl) (by kernel_rfl) (by kernel_rfl) ?_
          refine pl_skip rfl (by kernel_rfl) (by kernel_rfl) (by kernel_rfl) ?_
          refine pl_take (.bool false) rfl (by kernel_rfl) (by kernel_rfl) (by kernel_rfl) (by kernel_rfl) ?_
          refine pl_take (.bool false) rfl (by kernel_rfl) (by kernel_rfl) (by kernel_rfl) (by kernel_rfl) ?_
          refine pl_skip rfl (by kernel_rfl) (by kernel_rfl) (by kernel_rfl) ?_
          refine pl_skip rfl (by kernel_rfl) (by kernel_rfl) (by kernel_rfl) ?_
          refine pl_skip rfl (by kernel_rfl) (by kernel_rfl) (by kernel_rfl) ?_
          refine pl_take (.bool false) rfl (by kernel_rfl) (by kernel_rfl) (by kernel_rfl) (by kernel_rfl) ?_
          refine pl_take (.bool false) rfl (by kernel_rfl) (by kernel_rfl) (by kernel_rfl) (by kernel_rfl) ?_
          refine pl_nil ?_
          refine qw_then ?_
          refine cw_clean [2] (ws' := [(2, .bool false)]) (by kernel_rfl) (fun L => ?_)
          refine cw_ret ?_
          refine qw_ret [.bool false] rfl ⟨(by kernel_rfl), trivial⟩ ?_
          exact ⟨congrArg (fun b => Ending.returned (Value.bool b)) (show Orb.ok o = false by simp [Orb.ok, hb5, hb75, hb79, hc83]).symm, hE⟩
        ·
          refine pl_take (.bool false) rfl (by kernel_rfl) (by kernel_rfl) (by kernel_rfl) (ev_ndec (show _ = Result.ok (Next.value (Value.bool (decide ((o.lo : Int) < (o.hi : Int))))) _ from by kernel_rfl) (hc83)) ?_
          refine pl_take (.bool false) rfl (by kernel_rfl) (by kernel_rfl) (by kernel_rfl) (by kernel_rfl) ?_
          refine pl_take (.bool false) rfl (by kernel_rfl) (by kernel_rfl) (by kernel_rfl) (by kernel_rfl) ?_
          refine pl_nil ?_
          refine qw_then ?_
          refine cw_clean [1, 3, 4] (ws' := [(1, .pointer (some ⟨O1, 0, none⟩)), (3, .bool false), (4, .bool false)]) (by kernel_rfl) (fun L => ?_)
          refine cw_seq ?_
          refine cw_plain ?_
          refine pl_take (.bool false) rfl (by kernel_rfl) (by kernel_rfl) (by kernel_rfl) (by kernel_rfl) ?_
          refine pl_take (.bool false) rfl (by kernel_rfl) (by kernel_rfl) (by kernel_rfl) (by kernel_rfl) ?_
          refine pl_skip rfl (by kernel_rfl) (by kernel_rfl) (by kernel_rfl) ?_
          refine pl_take (.bool false) rfl (by kernel_rfl) (by kernel_rfl) (by kernel_rfl) (by kernel_rfl) ?_
          refine pl_take (.bool false) rfl (by kernel_rfl) (by kernel_rfl) (by kernel_rfl) (by kernel_rfl) ?_
          refine pl_skip rfl (by kernel_rfl) (by kernel_rfl) (by kernel_rfl) ?_
          refine pl_skip rfl (by kernel_rfl) (by kernel_rfl) (by kernel_rfl) ?_
          refine pl_skip rfl (by kernel_rfl) (by kernel_rfl) (by kernel_rfl) ?_
          refine pl_take (.bool false) rfl (by kernel_rfl) (by kernel_rfl) (by kernel_rfl) (by kernel_rfl) ?_
          refine pl_take (.bool false) rfl (by kernel_rfl) (by kernel_rfl) (by kernel_rfl) (by kernel_rfl) ?_
          refine pl_skip rfl (by kernel_rfl) (by kernel_rfl) (by kernel_rfl) ?_
          refine pl_skip rfl (by kernel_rfl) (by kernel_rfl) (by kernel_rfl) ?_
          refine pl_skip rfl (by kernel_rfl) (by kernel_rfl) (by kernel_rfl) ?_
          refine pl_take (.bool false) rfl (by kernel_rfl) (by kernel_rfl) (by kernel_rfl) (by kernel_rfl) ?_
          refine pl_take (.bool false) rfl (by kernel_rfl) (by kernel_rfl) (by kernel_rfl) (by kernel_rfl) ?_
          refine pl_skip rfl (by kernel_rfl) (by kernel_rfl) (by kernel_rfl) ?_
          refine pl_skip rfl (by kernel_rfl) (by kernel_rfl) (by kernel_rfl) ?_
          refine pl_skip rfl (by kernel_rfl) (by kernel_rfl) (by kernel_rfl) ?_
          refine pl_take (.bool false) rfl (by kernel_rfl) (by kernel_rfl) (by kernel_rfl) (by kernel_rfl) ?_
          refine pl_take (.bool false) rfl (by kernel_rfl) (by kernel_rfl) (by kernel_rfl) (by kernel_rfl) ?_
          refine pl_nil ?_
          refine qw_then ?_
          refine cw_clean [2] (ws' := [(2, .bool false)]) (by kernel_rfl) (fun L => ?_)
          refine cw_ret ?_
          refine qw_ret [.bool false] rfl ⟨(by kernel_rfl), trivial⟩ ?_
          exact ⟨congrArg (fun b => Ending.returned (Value.bool b)) (show Orb.ok o = false by simp [Orb.ok, hb5, hb75, hb79, hc83]).symm, hE⟩
      ·
        refine pl_step rfl (by kernel_rfl) (by kernel_rfl) (by kernel_rfl) (sn_call (f := 87) (args := #[.int .i64 (o.hi : Int), .int .i64 0, .int .i64 23999]) (by kernel_rfl) ((orbit_in_r (r := false) o.hi 0 23999 _ (hb79)).mono ?_))
        rintro e w84 ⟨rfl, hb⟩
        replace hE := hE.trans hb
        replace bO1_0 := BoxAt.ext hb bO1_0
        replace bO1_1 := BoxAt.ext hb bO1_1
        replace bO1_2 := BoxAt.ext hb bO1_2
        replace bO1_3 := BoxAt.ext hb bO1_3
        replace bO1_4 := BoxAt.ext hb bO1_4
        replace bO1_5 := BoxAt.ext hb bO1_5
        replace bO1_6 := BoxAt.ext hb bO1_6
        have hs85 := hb.size
        clear hb
        refine ⟨_, rfl, ?_⟩
        refine pl_take (.bool false) rfl (by kernel_rfl) (by kernel_rfl) (by kernel_rfl) (by kernel_rfl) ?_
        refine pl_take (.bool false) rfl (by kernel_rfl) (by kernel_rfl) (by kernel_rfl) (by kernel_rfl) ?_
        refine pl_skip rfl (by kernel_rfl) (by kernel_rfl) (by kernel_rfl) ?_
        refine pl_skip rfl (by kernel_rfl) (by kernel_rfl) (by kernel_rfl) ?_
        refine pl_skip rfl (by kernel_rfl) (by kernel_rfl) (by kernel_rfl) ?_
        refine pl_skip rfl (by kernel_rfl) (by kernel_rfl) (by kernel_rfl) ?_
        refine pl_skip rfl (by kernel_rfl) (by kernel_rfl) (by kernel_rfl) ?_
        refine pl_take (.bool false) rfl (by kernel_rfl) (by kernel_rfl) (by kernel_rfl) (by kernel_rfl) ?_
        refine pl_take (.bool false) rfl (by kernel_rfl) (by kernel_rfl) (by kernel_rfl) (by kernel_rfl) ?_
        refine pl_nil ?_
        refine qw_then ?_
        refine cw_clean [1, 3, 4] (ws' := [(1, .pointer (some ⟨O1, 0, none⟩)), (3, .bool false), (4, .bool false)]) (by kernel_rfl) (fun L => ?_)
        refine cw_seq ?_
        refine cw_plain ?_
        refine pl_take (.bool false) rfl (by kernel_rfl) (by kernel_rfl) (by kernel_rfl) (by kernel_rfl) ?_
        refine pl_take (.bool false) rfl (by kernel_rfl) (by kernel_rfl) (by kernel_rfl) (by kernel_rfl) ?_
        refine pl_skip rfl (by kernel_rfl) (by kernel_rfl) (by kernel_rfl) ?_
        refine pl_take (.bool false) rfl (by kernel_rfl) (by kernel_rfl) (by kernel_rfl) (by kernel_rfl) ?_
        refine pl_take (.bool false) rfl (by kernel_rfl) (by kernel_rfl) (by kernel_rfl) (by kernel_rfl) ?_
        refine pl_skip rfl (by kernel_rfl) (by kernel_rfl) (by kernel_rfl) ?_
        refine pl_skip rfl (by kernel_rfl) (by kernel_rfl) (by kernel_rfl) ?_
        refine pl_skip rfl (by kernel_rfl) (by kernel_rfl) (by kernel_rfl) ?_
        refine pl_take (.bool false) rfl (by kernel_rfl) (by kernel_rfl) (by kernel_rfl) (by kernel_rfl) ?_
        refine pl_take (.bool false) rfl (by kernel_rfl) (by kernel_rfl) (by kernel_rfl) (by kernel_rfl) ?_
        refine pl_skip rfl (by kernel_rfl) (by kernel_rfl) (by kernel_rfl) ?_
        refine pl_skip rfl (by kernel_rfl) (by kernel_rfl) (by kernel_rfl) ?_
        refine pl_skip rfl (by kernel_rfl) (by kernel_rfl) (by kernel_rfl) ?_
        refine pl_take (.bool false) rfl (by kernel_rfl) (by kernel_rfl) (by kernel_rfl) (by kernel_rfl) ?_
        refine pl_take (.bool false) rfl (by kernel_rfl) (by kernel_rfl) (by kernel_rfl) (by kernel_rfl) ?_
        refine pl_skip rfl (by kernel_rfl) (by kernel_rfl) (by kernel_rfl) ?_
        refine pl_skip rfl (by kernel_rfl) (by kernel_rfl) (by kernel_rfl) ?_
        refine pl_skip rfl (by kernel_rfl) (by kernel_rfl) (by kernel_rfl) ?_
        refine pl_take (.bool false) rfl (by kernel_rfl) (by kernel_rfl) (by kernel_rfl) (by kernel_rfl) ?_
        refine pl_take (.bool false) rfl (by kernel_rfl) (by kernel_rfl) (by kernel_rfl) (by kernel_rfl) ?_
        refine pl_nil ?_
        refine qw_then ?_
        refine cw_clean [2] (ws' := [(2, .bool false)]) (by kernel_rfl) (fun L => ?_)
        refine cw_ret ?_
        refine qw_ret [.bool false] rfl ⟨(by kernel_rfl), trivial⟩ ?_
        exact ⟨congrArg (fun b => Ending.returned (Value.bool b)) (show Orb.ok o = false by simp [Orb.ok, hb5, hb75, hb79]).symm, hE⟩
    ·
      refine pl_step rfl (by kernel_rfl) (by kernel_rfl) (by kernel_rfl) (sn_call (f := 87) (args := #[.int .i64 (o.lo : Int), .int .i64 0, .int .i64 23999]) (by kernel_rfl) ((orbit_in_r (r := false) o.lo 0 23999 _ (hb75)).mono ?_))
      rintro e w86 ⟨rfl, hb⟩
      replace hE := hE.trans hb
      replace bO1_0 := BoxAt.ext hb bO1_0
      replace bO1_1 := BoxAt.ext hb bO1_1
      replace bO1_2 := BoxAt.ext hb bO1_2
      replace bO1_3 := BoxAt.ext hb bO1_3
      replace bO1_4 := BoxAt.ext hb bO1_4
      replace bO1_5 := BoxAt.ext hb bO1_5
      replace bO1_6 := BoxAt.ext hb bO1_6
      have hs87 := hb.size
      clear hb
      refine ⟨_, rfl, ?_⟩
      refine pl_take (.bool false) rfl (by kernel_rfl) (by kernel_rfl) (by kernel_rfl) (by kernel_rfl) ?_
      refine pl_skip rfl (by kernel_rfl) (by kernel_rfl) (by kernel_rfl) ?_
      refine pl_skip rfl (by kernel_rfl) (by kernel_rfl) (by kernel_rfl) ?_
      refine pl_skip rfl (by kernel_rfl) (by kernel_rfl) (by kernel_rfl) ?_
      refine pl_take (.bool false) rfl (by kernel_rfl) (by kernel_rfl) (by kernel_rfl) (by kernel_rfl) ?_
      refine pl_take (.bool false) rfl (by kernel_rfl) (by kernel_rfl) (by kernel_rfl) (by kernel_rfl) ?_
      refine pl_skip rfl (by kernel_rfl) (by kernel_rfl) (by kernel_rfl) ?_
      refine pl_skip rfl (by kernel_rfl) (by kernel_rfl) (by kernel_rfl) ?_
      refine pl_skip rfl (by kernel_rfl) (by kernel_rfl) (by kernel_rfl) ?_
      refine pl_skip rfl (by kernel_rfl) (by kernel_rfl) (by kernel_rfl) ?_
      refine pl_skip rfl (by kernel_rfl) (by kernel_rfl) (by kernel_rfl) ?_
      refine pl_take (.bool false) rfl (by kernel_rfl) (by kernel_rfl) (by kernel_rfl) (by kernel_rfl) ?_
      refine pl_take (.bool false) rfl (by kernel_rfl) (by kernel_rfl) (by kernel_rfl) (by kernel_rfl) ?_
      refine pl_nil ?_
      refine qw_then ?_
      refine cw_clean [1, 3, 4] (ws' := [(1, .pointer (some ⟨O1, 0, none⟩)), (3, .bool false), (4, .bool false)]) (by kernel_rfl) (fun L => ?_)
      refine cw_seq ?_
      refine cw_plain ?_
      refine pl_take (.bool false) rfl (by kernel_rfl) (by kernel_rfl) (by kernel_rfl) (by kernel_rfl) ?_
      refine pl_take (.bool false) rfl (by kernel_rfl) (by kernel_rfl) (by kernel_rfl) (by kernel_rfl) ?_
      refine pl_skip rfl (by kernel_rfl) (by kernel_rfl) (by kernel_rfl) ?_
      refine pl_take (.bool false) rfl (by kernel_rfl) (by kernel_rfl) (by kernel_rfl) (by kernel_rfl) ?_
      refine pl_take (.bool false) rfl (by kernel_rfl) (by kernel_rfl) (by kernel_rfl) (by kernel_rfl) ?_
      refine pl_skip rfl (by kernel_rfl) (by kernel_rfl) (by kernel_rfl) ?_
      refine pl_skip rfl (by kernel_rfl) (by kernel_rfl) (by kernel_rfl) ?_
      refine pl_skip rfl (by kernel_rfl) (by kernel_rfl) (by kernel_rfl) ?_
      refine pl_take (.bool false) rfl (by kernel_rfl) (by kernel_rfl) (by kernel_rfl) (by kernel_rfl) ?_
      refine pl_take (.bool false) rfl (by kernel_rfl) (by kernel_rfl) (by kernel_rfl) (by kernel_rfl) ?_
      refine pl_skip rfl (by kernel_rfl) (by kernel_rfl) (by kernel_rfl) ?_
      refine pl_skip rfl (by kernel_rfl) (by kernel_rfl) (by kernel_rfl) ?_
      refine pl_skip rfl (by kernel_rfl) (by kernel_rfl) (by kernel_rfl) ?_
      refine pl_take (.bool false) rfl (by kernel_rfl) (by kernel_rfl) (by kernel_rfl) (by kernel_rfl) ?_
      refine pl_take (.bool false) rfl (by kernel_rfl) (by kernel_rfl) (by kernel_rfl) (by kernel_rfl) ?_
      refine pl_skip rfl (by kernel_rfl) (by kernel_rfl) (by kernel_rfl) ?_
      refine pl_skip rfl (by kernel_rfl) (by kernel_rfl) (by kernel_rfl) ?_
      refine pl_skip rfl (by kernel_rfl) (by kernel_rfl) (by kernel_rfl) ?_
      refine pl_take (.bool false) rfl (by kernel_rfl) (by kernel_rfl) (by kernel_rfl) (by kernel_rfl) ?_
      refine pl_take (.bool false) rfl (by kernel_rfl) (by kernel_rfl) (by kernel_rfl) (by kernel_rfl) ?_
      refine pl_nil ?_
      refine qw_then ?_
      refine cw_clean [2] (ws' := [(2, .bool false)]) (by kernel_rfl) (fun L => ?_)
      refine cw_ret ?_
      refine qw_ret [.bool false] rfl ⟨(by kernel_rfl), trivial⟩ ?_
      exact ⟨congrArg (fun b => Ending.returned (Value.bool b)) (show Orb.ok o = false by simp [Orb.ok, hb5, hb75]).symm, hE⟩
theorem oValid_r {o : Orb} {r : Bool} (w : World) (hr : Orb.ok o = r) : Calls Try.prog 56 #[.agg #[.int .i64 o.p, .int .i64 o.f, .int .i64 o.lo, .int .i64 o.hi, .int .i64 o.nd, .int .i64 o.tn, .int .i64 o.sl]] w fun e w' => e = .returned (.bool r) ∧ Ext w w' := hr ▸ oValid_c o w

end Go.Proofs.Ytdjjkhefdalokaa

/- Contracts of package orbit: where a satellite is. -/
namespace Go.Proofs.Ytdjjkhefdalokaa
open Go.RowKit

set_option maxRecDepth 1000000 in
set_option maxHeartbeats 4000000 in
theorem column_c (o : Orb) (t : Int) (w : World) (hok : Orb.ok o = true) (h0 : -10 ≤ t) (h1 : t ≤ 1000010) : Calls Try.prog 92 #[.agg #[.int .i64 o.p, .int .i64 o.f, .int .i64 o.lo, .int .i64 o.hi, .int .i64 o.nd, .int .i64 o.tn, .int .i64 o.sl, .int .i64 t]] w fun e w' => e = .returned (.int .i64 (Orb.col o t)) ∧ Ext w w' := by
  have hq0 := Orb.ok_t.1 hok
  have hm := Orb.turn_bd hok t h0 h1
  refine calls_cw 14 [(0, .agg #[.int .i64 (o.p : Int), .int .i64 (o.f : Int), .int .i64 (o.lo : Int), .int .i64 (o.hi : Int), .int .i64 (o.nd : Int), .int .i64 (o.tn : Int), .int .i64 (o.sl : Int), .int .i64 (t : Int)])] Try.func92 rfl Try.ntmps92 (by kernel_rfl) (by kernel_rfl) (fun L => ?_)
  have hE : Ext w w := Ext.refl w
  refine cw_seq ?_
  refine cw_plain ?_
  refine pl_step rfl (by kernel_rfl) (by kernel_rfl) (by kernel_rfl) (sn_new (us := #[.int .i64 (o.p : Int), .int .i64 (o.f : Int), .int .i64 (o.lo : Int), .int .i64 (o.hi : Int), .int .i64 (o.nd : Int), .int .i64 (o.tn : Int), .int .i64 (o.sl : Int), .int .i64 (t : Int)]) (t := 96) (by kernel_rfl) ?_)
  intro O1 X2 hO hOs hb hbx
  have hzO1 := hO; have hyO1 := hOs; clear hO hOs
  have bO1_0 : BoxAt X2 O1 0 (.int .i64 (o.p : Int)) := hbx 0 _ rfl
  have bO1_1 : BoxAt X2 O1 1 (.int .i64 (o.f : Int)) := hbx 1 _ rfl
  have bO1_2 : BoxAt X2 O1 2 (.int .i64 (o.lo : Int)) := hbx 2 _ rfl
  have bO1_3 : BoxAt X2 O1 3 (.int .i64 (o.hi : Int)) := hbx 3 _ rfl
  have bO1_4 : BoxAt X2 O1 4 (.int .i64 (o.nd : Int)) := hbx 4 _ rfl
  have bO1_5 : BoxAt X2 O1 5 (.int .i64 (o.tn : Int)) := hbx 5 _ rfl
  have bO1_6 : BoxAt X2 O1 6 (.int .i64 (o.sl : Int)) := hbx 6 _ rfl
  have bO1_7 : BoxAt X2 O1 7 (.int .i64 (t : Int)) := hbx 7 _ rfl
  clear hbx
  replace hE := hE.trans hb
  have hs3 := hb.size
  clear hb
  have lt4 := bO1_0.lt
  refine pl_take (.int .i64 0) rfl (by kernel_rfl) (by kernel_rfl) (by kernel_rfl) (by kernel_rfl) ?_
  refine pl_nil ?_
  refine qw_then ?_
  refine cw_seq ?_
  refine cw_plain ?_
  refine pl_take (.pointer (some ⟨O1, 0, none⟩)) rfl (by kernel_rfl) (by kernel_rfl) (by kernel_rfl) (by kernel_rfl) ?_
  refine pl_take (.pointer (some ⟨O1, 4, none⟩)) rfl (by kernel_rfl) (by kernel_rfl) (by kernel_rfl) (by kernel_rfl) ?_
  refine pl_take (.int .i64 (o.nd : Int)) rfl (by kernel_rfl) (by kernel_rfl) (by kernel_rfl) (ex_load rfl (by kernel_rfl) (ld3 (bO1_4.1))) ?_
  refine pl_take (.pointer (some ⟨O1, 0, none⟩)) rfl (by kernel_rfl) (by kernel_rfl) (by kernel_rfl) (by kernel_rfl) ?_
  refine pl_take (.pointer (some ⟨O1, 5, none⟩)) rfl (by kernel_rfl) (by kernel_rfl) (by kernel_rfl) (by kernel_rfl) ?_
  refine pl_take (.int .i64 (o.tn : Int)) rfl (by kernel_rfl) (by kernel_rfl) (by kernel_rfl) (ex_load rfl (by kernel_rfl) (ld3 (bO1_5.1))) ?_
  refine pl_take (.pointer (some ⟨O1, 7, none⟩)) rfl (by kernel_rfl) (by kernel_rfl) (by kernel_rfl) (by kernel_rfl) ?_
  refine pl_take (.int .i64 (t : Int)) rfl (by kernel_rfl) (by kernel_rfl) (by kernel_rfl) (ex_load rfl (by kernel_rfl) (ld3 (bO1_7.1))) ?_
  refine pl_take (.int .i64 (o.tn * t : Int)) rfl (by kernel_rfl) (by kernel_rfl) (by kernel_rfl) (ev_wrap (by kernel_rfl) (by omega) (by omega)) ?_
  refine pl_take (.int .i64 (o.nd + (o.tn * t) : Int)) rfl (by kernel_rfl) (by kernel_rfl) (by kernel_rfl) (ev_wrap (by kernel_rfl) (by omega) (by omega)) ?_
  refine pl_step rfl (by kernel_rfl) (by kernel_rfl) (by kernel_rfl) (sn_call (f := 104) (args := #[.int .i64 (o.nd + (o.tn * t) : Int), .int .i64 48000]) (by kernel_rfl) ((around_c (o.nd + (o.tn * t)) 48000 _ (by omega) (by omega)).mono ?_))
  rintro e w5 ⟨rfl, hb⟩
  replace hE := hE.trans hb
  replace bO1_0 := BoxAt.ext hb bO1_0
  replace bO1_1 := BoxAt.ext hb bO1_1
  replace bO1_2 := BoxAt.ext hb bO1_2
  replace bO1_3 := BoxAt.ext hb bO1_3
  replace bO1_4 := BoxAt.ext hb bO1_4
  replace bO1_5 := BoxAt.ext hb bO1_5
  replace bO1_6 := BoxAt.ext hb bO1_6
  replace bO1_7 := BoxAt.ext hb bO1_7
  have hs6 := hb.size
  clear hb
  refine ⟨_, rfl, ?_⟩
  refine pl_take (.int .i64 ((o.nd + (o.tn * t)) % 48000 : Int)) rfl (by kernel_rfl) (by kernel_rfl) (by kernel_rfl) (by kernel_rfl) ?_
  refine pl_nil ?_
  refine qw_then ?_
  refine cw_ret ?_
  refine qw_ret [.int .i64 ((o.nd + (o.tn * t)) % 48000 : Int)] rfl ⟨(by kernel_rfl), trivial⟩ ?_
  exact ⟨rfl, hE⟩
set_option maxRecDepth 1000000 in
set_option maxHeartbeats 4000000 in
theorem row_c (o : Orb) (t : Int) (w : World) (hok : Orb.ok o = true) (h0 : -10 ≤ t) (h1 : t ≤ 1000010) : Calls Try.prog 93 #[.agg #[.int .i64 o.p, .int .i64 o.f, .int .i64 o.lo, .int .i64 o.hi, .int .i64 o.nd, .int .i64 o.tn, .int .i64 o.sl, .int .i64 t]] w fun e w' => e = .returned (.int .i64 (Orb.row o t)) ∧ Ext w w' := by
  have hq0 := Orb.ok_t.1 hok
  have hu := Orb.ph_bd hok t
  have hv := Orb.up_bd hok t
  obtain ⟨hm0, hm1⟩ := Orb.mul_bd hok t
  have hm2 := Orb.mul_le hok
  have hr := Orb.row_bd hok t
  refine calls_cw 38 [(0, .agg #[.int .i64 (o.p : Int), .int .i64 (o.f : Int), .int .i64 (o.lo : Int), .int .i64 (o.hi : Int), .int .i64 (o.nd : Int), .int .i64 (o.tn : Int), .int .i64 (o.sl : Int), .int .i64 (t : Int)])] Try.func93 rfl Try.ntmps93 (by kernel_rfl) (by kernel_rfl) (fun L => ?_)
  have hE : Ext w w := Ext.refl w
  refine cw_seq ?_
  refine cw_plain ?_
  refine pl_step rfl (by kernel_rfl) (by kernel_rfl) (by kernel_rfl) (sn_new (us := #[.int .i64 (o.p : Int), .int .i64 (o.f : Int), .int .i64 (o.lo : Int), .int .i64 (o.hi : Int), .int .i64 (o.nd : Int), .int .i64 (o.tn : Int), .int .i64 (o.sl : Int), .int .i64 (t : Int)]) (t := 96) (by kernel_rfl) ?_)
  intro O1 X2 hO hOs hb hbx
  have hzO1 := hO; have hyO1 := hOs; clear hO hOs
  have bO1_0 : BoxAt X2 O1 0 (.int .i64 (o.p : Int)) := hbx 0 _ rfl
  have bO1_1 : BoxAt X2 O1 1 (.int .i64 (o.f : Int)) := hbx 1 _ rfl
  have bO1_2 : BoxAt X2 O1 2 (.int .i64 (o.lo : Int)) := hbx 2 _ rfl
  have bO1_3 : BoxAt X2 O1 3 (.int .i64 (o.hi : Int)) := hbx 3 _ rfl
  have bO1_4 : BoxAt X2 O1 4 (.int .i64 (o.nd : Int)) := hbx 4 _ rfl
  have bO1_5 : BoxAt X2 O1 5 (.int .i64 (o.tn : Int)) := hbx 5 _ rfl
  have bO1_6 : BoxAt X2 O1 6 (.int .i64 (o.sl : Int)) := hbx 6 _ rfl
  have bO1_7 : BoxAt X2 O1 7 (.int .i64 (t : Int)) := hbx 7 _ rfl
  clear hbx
  replace hE := hE.trans hb
  have hs3 := hb.size
  clear hb
  have lt4 := bO1_0.lt
  refine pl_take (.int .i64 0) rfl (by kernel_rfl) (by kernel_rfl) (by kernel_rfl) (by kernel_rfl) ?_
  refine pl_nil ?_
  refine qw_then ?_
  refine cw_seq ?_
  refine cw_plain ?_
  refine pl_take (.pointer (some ⟨O1, 7, none⟩)) rfl (by kernel_rfl) (by kernel_rfl) (by kernel_rfl) (by kernel_rfl) ?_
  refine pl_take (.int .i64 (t : Int)) rfl (by kernel_rfl) (by kernel_rfl) (by kernel_rfl) (ex_load rfl (by kernel_rfl) (ld3 (bO1_7.1))) ?_
  refine pl_take (.pointer (some ⟨O1, 0, none⟩)) rfl (by kernel_rfl) (by kernel_rfl) (by kernel_rfl) (by kernel_rfl) ?_
  refine pl_take (.pointer (some ⟨O1, 1, none⟩)) rfl (by kernel_rfl) (by kernel_rfl) (by kernel_rfl) (by kernel_rfl) ?_
  refine pl_take (.int .i64 (o.f : Int)) rfl (by kernel_rfl) (by kernel_rfl) (by kernel_rfl) (ex_load rfl (by kernel_rfl) (ld3 (bO1_1.1))) ?_
  refine pl_take (.int .i64 (t + o.f : Int)) rfl (by kernel_rfl) (by kernel_rfl) (by kernel_rfl) (ev_wrap (by kernel_rfl) (by omega) (by omega)) ?_
  refine pl_take (.pointer (some ⟨O1, 0, none⟩)) rfl (by kernel_rfl) (by kernel_rfl) (by kernel_rfl) (by kernel_rfl) ?_
  refine pl_take (.pointer (some ⟨O1, 0, none⟩)) rfl (by kernel_rfl) (by kernel_rfl) (by kernel_rfl) (by kernel_rfl) ?_
  refine pl_take (.int .i64 (o.p : Int)) rfl (by kernel_rfl) (by kernel_rfl) (by kernel_rfl) (ex_load rfl (by kernel_rfl) (ld3 (bO1_0.1))) ?_
  refine pl_step rfl (by kernel_rfl) (by kernel_rfl) (by kernel_rfl) (sn_call (f := 104) (args := #[.int .i64 (t + o.f : Int), .int .i64 (o.p : Int)]) (by kernel_rfl) ((around_c (t + o.f) o.p _ (by omega) (by omega)).mono ?_))
  rintro e w5 ⟨rfl, hb⟩
  replace hE := hE.trans hb
  replace bO1_0 := BoxAt.ext hb bO1_0
  replace bO1_1 := BoxAt.ext hb bO1_1
  replace bO1_2 := BoxAt.ext hb bO1_2
  replace bO1_3 := BoxAt.ext hb bO1_3
  replace bO1_4 := BoxAt.ext hb bO1_4
  replace bO1_5 := BoxAt.ext hb bO1_5
  replace bO1_6 := BoxAt.ext hb bO1_6
  replace bO1_7 := BoxAt.ext hb bO1_7
  have hs6 := hb.size
  clear hb
  refine ⟨_, rfl, ?_⟩
  refine pl_take (.int .i64 (Orb.ph o t : Int)) rfl (by kernel_rfl) (by kernel_rfl) (by kernel_rfl) (by kernel_rfl) ?_
  refine pl_nil ?_
  refine qw_then ?_
  refine cw_seq ?_
  refine cw_draw [(some 14, [1], []), (some 15, [14], [0]), (some 16, [15], [1]), (some 17, [1], []), (some 18, [17], [3]), (some 19, [18], [4]), (some 20, [1], []), (some 21, [20], [6]), (some 22, [21], [7]), (some 23, [19, 22], [5, 8]), (some 24, [23], [9]), (some 25, [3], []), (some 26, [1], []), (some 27, [26], [12]), (some 28, [27], [13]), (some 29, [3], []), (some 30, [28, 29], [14, 15]), (some 31, [25, 30], [11, 16]), (some 32, [24, 31], [10, 17]), (some 33, [1], []), (some 34, [33], [19]), (some 35, [34], [20]), (some 36, [32, 35], [18, 21]), (some 37, [16, 36], [2, 22]), (some 2, [37], [23, 0, 1, 2, 3, 4, 5, 6, 7, 8, 9, 10, 11, 12, 13, 14, 15, 16, 17, 18, 19, 20, 21, 22, 23])] (fun w' => w'.cell? ⟨O1, 2, none⟩ = some (.int .i64 (o.lo : Int)) ∧ w'.cell? ⟨O1, 3, none⟩ = some (.int .i64 (o.hi : Int)) ∧ w'.cell? ⟨O1, 0, none⟩ = some (.int .i64 (o.p : Int))) (by kernel_rfl) (by kernel_rfl) (by kernel_rfl) (by kernel_rfl) ((calm_then calm_body)) (⟨bO1_2.1, bO1_3.1, bO1_0.1⟩) (fun ops Q X7 hb hL hR hK => ?_)
  replace hE := hE.trans hb
  replace bO1_0 := BoxAt.ext hb bO1_0
  replace bO1_1 := BoxAt.ext hb bO1_1
  replace bO1_2 := BoxAt.ext hb bO1_2
  replace bO1_3 := BoxAt.ext hb bO1_3
  replace bO1_4 := BoxAt.ext hb bO1_4
  replace bO1_5 := BoxAt.ext hb bO1_5
  replace bO1_6 := BoxAt.ext hb bO1_6
  replace bO1_7 := BoxAt.ext hb bO1_7
  have hs8 := hb.size
  clear hb
  refine wd_take 0 (.pointer (some ⟨O1, 0, none⟩)) hR rfl (by kernel_rfl) rfl (by kernel_rfl) (fun w _ => by kernel_rfl) (⟨bO1_2.1, bO1_3.1, bO1_0.1⟩) ?_
  refine wd_take 1 (.pointer (some ⟨O1, 2, none⟩)) hR rfl (by kernel_rfl) rfl (by kernel_rfl) (fun w _ => by kernel_rfl) (⟨bO1_2.1, bO1_3.1, bO1_0.1⟩) ?_
  refine wd_take 2 (.int .i64 (o.lo : Int)) hR rfl (by kernel_rfl) rfl (by kernel_rfl) (fun w hS => ex_load rfl (by kernel_rfl) (ld3 (hS.1))) (⟨bO1_2.1, bO1_3.1, bO1_0.1⟩) ?_
  refine wd_take 3 (.pointer (some ⟨O1, 0, none⟩)) hR rfl (by kernel_rfl) rfl (by kernel_rfl) (fun w _ => by kernel_rfl) (⟨bO1_2.1, bO1_3.1, bO1_0.1⟩) ?_
  refine wd_take 4 (.pointer (some ⟨O1, 3, none⟩)) hR rfl (by kernel_rfl) rfl (by kernel_rfl) (fun w _ => by kernel_rfl) (⟨bO1_2.1, bO1_3.1, bO1_0.1⟩) ?_
  refine wd_take 5 (.int .i64 (o.hi : Int)) hR rfl (by kernel_rfl) rfl (by kernel_rfl) (fun w hS => ex_load rfl (by kernel_rfl) (ld3 (hS.2.1))) (⟨bO1_2.1, bO1_3.1, bO1_0.1⟩) ?_
  refine wd_take 6 (.pointer (some ⟨O1, 0, none⟩)) hR rfl (by kernel_rfl) rfl (by kernel_rfl) (fun w _ => by kernel_rfl) (⟨bO1_2.1, bO1_3.1, bO1_0.1⟩) ?_
  refine wd_take 7 (.pointer (some ⟨O1, 2, none⟩)) hR rfl (by kernel_rfl) rfl (by kernel_rfl) (fun w _ => by kernel_rfl) (⟨bO1_2.1, bO1_3.1, bO1_0.1⟩) ?_
  refine wd_take 8 (.int .i64 (o.lo : Int)) hR rfl (by kernel_rfl) rfl (by kernel_rfl) (fun w hS => ex_load rfl (by kernel_rfl) (ld3 (hS.1))) (⟨bO1_2.1, bO1_3.1, bO1_0.1⟩) ?_
  refine wd_take 9 (.int .i64 (o.hi - o.lo : Int)) hR rfl (by kernel_rfl) rfl (by kernel_rfl) (fun w _ => ev_wrap (by kernel_rfl) (by omega) (by omega)) (⟨bO1_2.1, bO1_3.1, bO1_0.1⟩) ?_
  refine wd_take 10 (.int .i64 ((o.hi - o.lo) * 2 : Int)) hR rfl (by kernel_rfl) rfl (by kernel_rfl) (fun w _ => ev_wrap (by kernel_rfl) (by omega) (by omega)) (⟨bO1_2.1, bO1_3.1, bO1_0.1⟩) ?_
  refine wd_take 11 (.int .i64 (Orb.ph o t : Int)) hR rfl (by kernel_rfl) rfl (by kernel_rfl) (fun w _ => by kernel_rfl) (⟨bO1_2.1, bO1_3.1, bO1_0.1⟩) ?_
  refine wd_take 12 (.pointer (some ⟨O1, 0, none⟩)) hR rfl (by kernel_rfl) rfl (by kernel_rfl) (fun w _ => by kernel_rfl) (⟨bO1_2.1, bO1_3.1, bO1_0.1⟩) ?_
  refine wd_take 13 (.pointer (some ⟨O1, 0, none⟩)) hR rfl (by kernel_rfl) rfl (by kernel_rfl) (fun w _ => by kernel_rfl) (⟨bO1_2.1, bO1_3.1, bO1_0.1⟩) ?_
  refine wd_take 14 (.int .i64 (o.p : Int)) hR rfl (by kernel_rfl) rfl (by kernel_rfl) (fun w hS => ex_load rfl (by kernel_rfl) (ld3 (hS.2.2))) (⟨bO1_2.1, bO1_3.1, bO1_0.1⟩) ?_
  refine wd_take 15 (.int .i64 (Orb.ph o t : Int)) hR rfl (by kernel_rfl) rfl (by kernel_rfl) (fun w _ => by kernel_rfl) (⟨bO1_2.1, bO1_3.1, bO1_0.1⟩) ?_
  refine wd_take 16 (.int .i64 (o.p - (Orb.ph o t) : Int)) hR rfl (by kernel_rfl) rfl (by kernel_rfl) (fun w _ => ev_wrap (by kernel_rfl) (by omega) (by omega)) (⟨bO1_2.1, bO1_3.1, bO1_0.1⟩) ?_
  refine wd_take 17 (.int .i64 (Orb.up o t : Int)) hR rfl (by kernel_rfl) rfl (by kernel_rfl) (fun w _ => ev_int (show _ = Result.ok (Next.value (Value.int .i64 (if (o.p - Orb.ph o t) < (Orb.ph o t) then (o.p - Orb.ph o t) else (Orb.ph o t)))) _ from by kernel_rfl) (by unfold Orb.up; split <;> omega)) (⟨bO1_2.1, bO1_3.1, bO1_0.1⟩) ?_
  refine wd_take 18 (.int .i64 (((o.hi - o.lo) * 2) * (Orb.up o t) : Int)) hR rfl (by kernel_rfl) rfl (by kernel_rfl) (fun w _ => ev_wrap (by kernel_rfl) (by omega) (by omega)) (⟨bO1_2.1, bO1_3.1, bO1_0.1⟩) ?_
  refine wd_take 19 (.pointer (some ⟨O1, 0, none⟩)) hR rfl (by kernel_rfl) rfl (by kernel_rfl) (fun w _ => by kernel_rfl) (⟨bO1_2.1, bO1_3.1, bO1_0.1⟩) ?_
  refine wd_take 20 (.pointer (some ⟨O1, 0, none⟩)) hR rfl (by kernel_rfl) rfl (by kernel_rfl) (fun w _ => by kernel_rfl) (⟨bO1_2.1, bO1_3.1, bO1_0.1⟩) ?_
  refine wd_take 21 (.int .i64 (o.p : Int)) hR rfl (by kernel_rfl) rfl (by kernel_rfl) (fun w hS => ex_load rfl (by kernel_rfl) (ld3 (hS.2.2))) (⟨bO1_2.1, bO1_3.1, bO1_0.1⟩) ?_
  refine wd_take 22 (.int .i64 ((o.hi - o.lo) * 2 * Orb.up o t / o.p : Int)) hR rfl (by kernel_rfl) rfl (by kernel_rfl) (fun w _ => ev_int (ex_bin (a := (o.hi - o.lo) * 2 * Orb.up o t) (b := o.p) rfl (by kernel_rfl) (by kernel_rfl) (bin_tdiv (by omega) (by omega) (by omega))) (Int.tdiv_eq_ediv_of_nonneg hm0)) (⟨bO1_2.1, bO1_3.1, bO1_0.1⟩) ?_
  refine wd_take 23 (.int .i64 (Orb.row o t : Int)) hR rfl (by kernel_rfl) rfl (by kernel_rfl) (fun w _ => ev_wrap (show _ = Result.ok (Next.value (Value.int .i64 (IntKind.i64.wrap (Orb.row o t)))) _ from by kernel_rfl) (by omega) (by omega)) (⟨bO1_2.1, bO1_3.1, bO1_0.1⟩) ?_
  refine wd_take 24 (.int .i64 (Orb.row o t : Int)) hR rfl (by kernel_rfl) rfl (by kernel_rfl) (fun w _ => by kernel_rfl) (⟨bO1_2.1, bO1_3.1, bO1_0.1⟩) ?_
  refine wd_end hL hR hK (by kernel_rfl) ?_
  refine qw_then ?_
  refine cw_clean [2] (ws' := [(2, .int .i64 (Orb.row o t : Int))]) (by kernel_rfl) (fun L => ?_)
  refine cw_ret ?_
  refine qw_ret [.int .i64 (Orb.row o t : Int)] rfl ⟨(by kernel_rfl), trivial⟩ ?_
  exact ⟨rfl, hE⟩
set_option maxRecDepth 1000000 in
set_option maxHeartbeats 4000000 in
theorem cell_c (o : Orb) (t : Int) (w : World) (hok : Orb.ok o = true) (h0 : -10 ≤ t) (h1 : t ≤ 1000010) : Calls Try.prog 64 #[.agg #[.int .i64 o.p, .int .i64 o.f, .int .i64 o.lo, .int .i64 o.hi, .int .i64 o.nd, .int .i64 o.tn, .int .i64 o.sl, .int .i64 t]] w fun e w' => e = .returned (.agg #[.int .i64 ((Orb.cx o t : Nat) : Int), .int .i64 ((Orb.cy o t : Nat) : Int)]) ∧ Ext w w' := by
  have hc := Orb.col_bd (o := o) t
  have hr := Orb.row_bd hok t
  refine calls_cw 10 [(0, .agg #[.int .i64 (o.p : Int), .int .i64 (o.f : Int), .int .i64 (o.lo : Int), .int .i64 (o.hi : Int), .int .i64 (o.nd : Int), .int .i64 (o.tn : Int), .int .i64 (o.sl : Int), .int .i64 (t : Int)])] Try.func64 rfl Try.ntmps64 (by kernel_rfl) (by kernel_rfl) (fun L => ?_)
  have hE : Ext w w := Ext.refl w
  refine cw_seq ?_
  refine cw_plain ?_
  refine pl_step rfl (by kernel_rfl) (by kernel_rfl) (by kernel_rfl) (sn_new (us := #[.int .i64 (o.p : Int), .int .i64 (o.f : Int), .int .i64 (o.lo : Int), .int .i64 (o.hi : Int), .int .i64 (o.nd : Int), .int .i64 (o.tn : Int), .int .i64 (o.sl : Int), .int .i64 (t : Int)]) (t := 96) (by kernel_rfl) ?_)
  intro O1 X2 hO hOs hb hbx
  have hzO1 := hO; have hyO1 := hOs; clear hO hOs
  have bO1_0 : BoxAt X2 O1 0 (.int .i64 (o.p : Int)) := hbx 0 _ rfl
  have bO1_1 : BoxAt X2 O1 1 (.int .i64 (o.f : Int)) := hbx 1 _ rfl
  have bO1_2 : BoxAt X2 O1 2 (.int .i64 (o.lo : Int)) := hbx 2 _ rfl
  have bO1_3 : BoxAt X2 O1 3 (.int .i64 (o.hi : Int)) := hbx 3 _ rfl
  have bO1_4 : BoxAt X2 O1 4 (.int .i64 (o.nd : Int)) := hbx 4 _ rfl
  have bO1_5 : BoxAt X2 O1 5 (.int .i64 (o.tn : Int)) := hbx 5 _ rfl
  have bO1_6 : BoxAt X2 O1 6 (.int .i64 (o.sl : Int)) := hbx 6 _ rfl
  have bO1_7 : BoxAt X2 O1 7 (.int .i64 (t : Int)) := hbx 7 _ rfl
  clear hbx
  replace hE := hE.trans hb
  have hs3 := hb.size
  clear hb
  have lt4 := bO1_0.lt
  refine pl_step rfl (by kernel_rfl) (by kernel_rfl) (by kernel_rfl) (sn_new (us := #[.int .i64 0, .int .i64 0]) (t := 57) (by kernel_rfl) ?_)
  intro O5 X6 hO hOs hb hbx
  have hzO5 := hO; have hyO5 := hOs; clear hO hOs
  have bO5_0 : BoxAt X6 O5 0 (.int .i64 0) := hbx 0 _ rfl
  have bO5_1 : BoxAt X6 O5 1 (.int .i64 0) := hbx 1 _ rfl
  clear hbx
  replace hE := hE.trans hb
  replace bO1_0 := BoxAt.ext hb bO1_0
  replace bO1_1 := BoxAt.ext hb bO1_1
  replace bO1_2 := BoxAt.ext hb bO1_2
  replace bO1_3 := BoxAt.ext hb bO1_3
  replace bO1_4 := BoxAt.ext hb bO1_4
  replace bO1_5 := BoxAt.ext hb bO1_5
  replace bO1_6 := BoxAt.ext hb bO1_6
  replace bO1_7 := BoxAt.ext hb bO1_7
  have hs7 := hb.size
  clear hb
  have lt8 := bO5_0.lt
  refine pl_nil ?_
  refine qw_then ?_
  refine cw_seq ?_
  refine cw_draw [(some 3, [1], []), (some 4, [3], [0]), (some 5, [4], [1]), (some 6, [1], []), (some 7, [6], [3, 1]), (some 8, [7], [4]), (some 9, [5, 8], [2, 5]), (none, [2, 9], [6, 4, 0, 1, 2, 3, 4, 5, 6])] (fun w' => w'.cell? ⟨O1, 0, none⟩ = some (.int .i64 (o.p : Int)) ∧ w'.cell? ⟨O1, 1, none⟩ = some (.int .i64 (o.f : Int)) ∧ w'.cell? ⟨O1, 2, none⟩ = some (.int .i64 (o.lo : Int)) ∧ w'.cell? ⟨O1, 3, none⟩ = some (.int .i64 (o.hi : Int)) ∧ w'.cell? ⟨O1, 4, none⟩ = some (.int .i64 (o.nd : Int)) ∧ w'.cell? ⟨O1, 5, none⟩ = some (.int .i64 (o.tn : Int)) ∧ w'.cell? ⟨O1, 6, none⟩ = some (.int .i64 (o.sl : Int)) ∧ w'.cell? ⟨O1, 7, none⟩ = some (.int .i64 (t : Int))) (by kernel_rfl) (by kernel_rfl) (by kernel_rfl) (by kernel_rfl) ((calm_then calm_body)) (⟨bO1_0.1, bO1_1.1, bO1_2.1, bO1_3.1, bO1_4.1, bO1_5.1, bO1_6.1, bO1_7.1⟩) (fun ops Q X9 hb hL hR hK => ?_)
  replace hE := hE.trans hb
  replace bO1_0 := BoxAt.ext hb bO1_0
  replace bO1_1 := BoxAt.ext hb bO1_1
  replace bO1_2 := BoxAt.ext hb bO1_2
  replace bO1_3 := BoxAt.ext hb bO1_3
  replace bO1_4 := BoxAt.ext hb bO1_4
  replace bO1_5 := BoxAt.ext hb bO1_5
  replace bO1_6 := BoxAt.ext hb bO1_6
  replace bO1_7 := BoxAt.ext hb bO1_7
  replace bO5_0 := BoxAt.ext hb bO5_0
  replace bO5_1 := BoxAt.ext hb bO5_1
  have hs10 := hb.size
  clear hb
  refine wd_take 0 (.agg #[.int .i64 (o.p : Int), .int .i64 (o.f : Int), .int .i64 (o.lo : Int), .int .i64 (o.hi : Int), .int .i64 (o.nd : Int), .int .i64 (o.tn : Int), .int .i64 (o.sl : Int), .int .i64 (t : Int)]) hR rfl (by kernel_rfl) rfl (by kernel_rfl) (fun w hS => ex_load rfl (by kernel_rfl) (ld96 (hS.1) (hS.2.1) (hS.2.2.1) (hS.2.2.2.1) (hS.2.2.2.2.1) (hS.2.2.2.2.2.1) (hS.2.2.2.2.2.2.1) (hS.2.2.2.2.2.2.2))) (⟨bO1_0.1, bO1_1.1, bO1_2.1, bO1_3.1, bO1_4.1, bO1_5.1, bO1_6.1, bO1_7.1⟩) ?_
  refine wd_take 3 (.agg #[.int .i64 (o.p : Int), .int .i64 (o.f : Int), .int .i64 (o.lo : Int), .int .i64 (o.hi : Int), .int .i64 (o.nd : Int), .int .i64 (o.tn : Int), .int .i64 (o.sl : Int), .int .i64 (t : Int)]) hR rfl (by kernel_rfl) rfl (by kernel_rfl) (fun w hS => ex_load rfl (by kernel_rfl) (ld96 (hS.1) (hS.2.1) (hS.2.2.1) (hS.2.2.2.1) (hS.2.2.2.2.1) (hS.2.2.2.2.2.1) (hS.2.2.2.2.2.2.1) (hS.2.2.2.2.2.2.2))) (⟨bO1_0.1, bO1_1.1, bO1_2.1, bO1_3.1, bO1_4.1, bO1_5.1, bO1_6.1, bO1_7.1⟩) ?_
  refine wd_step 1 hR rfl (by kernel_rfl) (by kernel_rfl) (by kernel_rfl) (sn_call (f := 92) (args := #[.agg #[.int .i64 (o.p : Int), .int .i64 (o.f : Int), .int .i64 (o.lo : Int), .int .i64 (o.hi : Int), .int .i64 (o.nd : Int), .int .i64 (o.tn : Int), .int .i64 (o.sl : Int), .int .i64 (t : Int)]]) (by kernel_rfl) ((column_c o t _ hok (by omega) (by omega)).mono ?_))
  rintro e w11 ⟨rfl, hb⟩
  replace hE := hE.trans hb
  replace bO1_0 := BoxAt.ext hb bO1_0
  replace bO1_1 := BoxAt.ext hb bO1_1
  replace bO1_2 := BoxAt.ext hb bO1_2
  replace bO1_3 := BoxAt.ext hb bO1_3
  replace bO1_4 := BoxAt.ext hb bO1_4
  replace bO1_5 := BoxAt.ext hb bO1_5
  replace bO1_6 := BoxAt.ext hb bO1_6
  replace bO1_7 := BoxAt.ext hb bO1_7
  replace bO5_0 := BoxAt.ext hb bO5_0
  replace bO5_1 := BoxAt.ext hb bO5_1
  have hs12 := hb.size
  clear hb
  refine ⟨_, rfl, ⟨bO1_0.1, bO1_1.1, bO1_2.1, bO1_3.1, bO1_4.1, bO1_5.1, bO1_6.1, bO1_7.1⟩, ?_⟩
  refine wd_take 2 (.int .i64 (((Orb.cx o t : Nat) : Int) : Int)) hR rfl (by kernel_rfl) rfl (by kernel_rfl) (fun w _ => ev_int (ex_bin (a := Orb.col o t) (b := 1000) rfl (by kernel_rfl) (by kernel_rfl) (bin_tdiv (by omega) (by omega) (by omega))) ((Int.tdiv_eq_ediv_of_nonneg hc.1).trans (Orb.cx_z o t))) (⟨bO1_0.1, bO1_1.1, bO1_2.1, bO1_3.1, bO1_4.1, bO1_5.1, bO1_6.1, bO1_7.1⟩) ?_
  refine wd_step 4 hR rfl (by kernel_rfl) (by kernel_rfl) (by kernel_rfl) (sn_call (f := 93) (args := #[.agg #[.int .i64 (o.p : Int), .int .i64 (o.f : Int), .int .i64 (o.lo : Int), .int .i64 (o.hi : Int), .int .i64 (o.nd : Int), .int .i64 (o.tn : Int), .int .i64 (o.sl : Int), .int .i64 (t : Int)]]) (by kernel_rfl) ((row_c o t _ hok (by omega) (by omega)).mono ?_))
  rintro e w13 ⟨rfl, hb⟩
  replace hE := hE.trans hb
  replace bO1_0 := BoxAt.ext hb bO1_0
  replace bO1_1 := BoxAt.ext hb bO1_1
  replace bO1_2 := BoxAt.ext hb bO1_2
  replace bO1_3 := BoxAt.ext hb bO1_3
  replace bO1_4 := BoxAt.ext hb bO1_4
  replace bO1_5 := BoxAt.ext hb bO1_5
  replace bO1_6 := BoxAt.ext hb bO1_6
  replace bO1_7 := BoxAt.ext hb bO1_7
  replace bO5_0 := BoxAt.ext hb bO5_0
  replace bO5_1 := BoxAt.ext hb bO5_1
  have hs14 := hb.size
  clear hb
  refine ⟨_, rfl, ⟨bO1_0.1, bO1_1.1, bO1_2.1, bO1_3.1, bO1_4.1, bO1_5.1, bO1_6.1, bO1_7.1⟩, ?_⟩
  refine wd_take 5 (.int .i64 (((Orb.cy o t : Nat) : Int) : Int)) hR rfl (by kernel_rfl) rfl (by kernel_rfl) (fun w _ => ev_int (ex_bin (a := Orb.row o t) (b := 1000) rfl (by kernel_rfl) (by kernel_rfl) (bin_tdiv (by omega) (by omega) (by omega))) ((Int.tdiv_eq_ediv_of_nonneg hr.1).trans (Orb.cy_z hok t))) (⟨bO1_0.1, bO1_1.1, bO1_2.1, bO1_3.1, bO1_4.1, bO1_5.1, bO1_6.1, bO1_7.1⟩) ?_
  refine wd_take 6 (.agg #[.int .i64 (((Orb.cx o t : Nat) : Int) : Int), .int .i64 (((Orb.cy o t : Nat) : Int) : Int)]) hR rfl (by kernel_rfl) rfl (by kernel_rfl) (fun w _ => by kernel_rfl) (⟨bO1_0.1, bO1_1.1, bO1_2.1, bO1_3.1, bO1_4.1, bO1_5.1, bO1_6.1, bO1_7.1⟩) ?_
  refine wd_step 7 hR rfl (by kernel_rfl) (by kernel_rfl) (by kernel_rfl) (sn_set2 (O := O5) (j := 0) (v := .int .i64 (((Orb.cx o t : Nat) : Int) : Int)) (v' := .int .i64 (((Orb.cy o t : Nat) : Int) : Int)) (ex_store (p := .pointer (some ⟨O5, 0, none⟩)) (v := .agg #[.int .i64 (((Orb.cx o t : Nat) : Int) : Int), .int .i64 (((Orb.cy o t : Nat) : Int) : Int)]) rfl (by kernel_rfl) (by kernel_rfl) (st57 bO5_0.1 bO5_0.2 bO5_1.1 bO5_1.2)) bO5_0 bO5_1 ?_)
  intro X15 ho hv0 hv1 hk
  replace hE := ho.ext hE (Nat.le_trans hs3 (Nat.le_of_eq hzO5))
  replace bO1_0 := ho.box (Nat.ne_of_gt (Nat.lt_of_lt_of_le lt4 (Nat.le_of_eq hzO5))) bO1_0
  replace bO1_1 := ho.box (Nat.ne_of_gt (Nat.lt_of_lt_of_le lt4 (Nat.le_of_eq hzO5))) bO1_1
  replace bO1_2 := ho.box (Nat.ne_of_gt (Nat.lt_of_lt_of_le lt4 (Nat.le_of_eq hzO5))) bO1_2
  replace bO1_3 := ho.box (Nat.ne_of_gt (Nat.lt_of_lt_of_le lt4 (Nat.le_of_eq hzO5))) bO1_3
  replace bO1_4 := ho.box (Nat.ne_of_gt (Nat.lt_of_lt_of_le lt4 (Nat.le_of_eq hzO5))) bO1_4
  replace bO1_5 := ho.box (Nat.ne_of_gt (Nat.lt_of_lt_of_le lt4 (Nat.le_of_eq hzO5))) bO1_5
  replace bO1_6 := ho.box (Nat.ne_of_gt (Nat.lt_of_lt_of_le lt4 (Nat.le_of_eq hzO5))) bO1_6
  replace bO1_7 := ho.box (Nat.ne_of_gt (Nat.lt_of_lt_of_le lt4 (Nat.le_of_eq hzO5))) bO1_7
  have hs16 : w13.heap.size ≤ X15.heap.size := Nat.le_of_eq ho.size.symm
  clear ho hk bO5_0 bO5_1
  have bO5_0 := hv0; clear hv0
  have bO5_1 := hv1; clear hv1
  refine ⟨⟨bO1_0.1, bO1_1.1, bO1_2.1, bO1_3.1, bO1_4.1, bO1_5.1, bO1_6.1, bO1_7.1⟩, ?_⟩
  refine wd_end hL hR hK (by kernel_rfl) ?_
  refine qw_then ?_
  refine cw_ret ?_
  refine qw_ret [.agg #[.int .i64 (((Orb.cx o t : Nat) : Int) : Int), .int .i64 (((Orb.cy o t : Nat) : Int) : Int)]] rfl ⟨⟨_, by kernel_rfl, res_ld (ld57 (bO5_0.1) (bO5_1.1))⟩, trivial⟩ ?_
  exact ⟨rfl, hE⟩
set_option maxRecDepth 1000000 in
set_option maxHeartbeats 4000000 in
theorem at_y (o : Orb) (t d : Int) (w : World) (hat : Orb.atB o t d = true) : Calls Try.prog 63 #[.agg #[.int .i64 o.p, .int .i64 o.f, .int .i64 o.lo, .int .i64 o.hi, .int .i64 o.nd, .int .i64 o.tn, .int .i64 o.sl], .int .i64 t, .int .i64 d] w fun e w' => e = .returned (.tuple #[.agg #[.int .i64 o.p, .int .i64 o.f, .int .i64 o.lo, .int .i64 o.hi, .int .i64 o.nd, .int .i64 o.tn, .int .i64 o.sl, .int .i64 (t - d)], .bool true]) ∧ Ext w w' := by
  replace hat : (Globe.inB t 0 1000000 = true ∧ Globe.inB d (-10) 10 = true) ∧ Orb.ok o = true := by simpa [Orb.atB] using hat
  have h1 := Globe.inB_t.1 hat.1.1
  have h2 := Globe.inB_t.1 hat.1.2
  refine calls_cw 25 [(2, .int .i64 (d : Int)), (1, .int .i64 (t : Int)), (0, .agg #[.int .i64 (o.p : Int), .int .i64 (o.f : Int), .int .i64 (o.lo : Int), .int .i64 (o.hi : Int), .int .i64 (o.nd : Int), .int .i64 (o.tn : Int), .int .i64 (o.sl : Int)])] Try.func63 rfl Try.ntmps63 (by kernel_rfl) (by kernel_rfl) (fun L => ?_)
  have hE : Ext w w := Ext.refl w
  refine cw_seq ?_
  refine cw_plain ?_
  refine pl_step rfl (by kernel_rfl) (by kernel_rfl) (by kernel_rfl) (sn_new (us := #[.int .i64 (o.p : Int), .int .i64 (o.f : Int), .int .i64 (o.lo : Int), .int .i64 (o.hi : Int), .int .i64 (o.nd : Int), .int .i64 (o.tn : Int), .int .i64 (o.sl : Int)]) (t := 24) (by kernel_rfl) ?_)
  intro O1 X2 hO hOs hb hbx
  have hzO1 := hO; have hyO1 := hOs; clear hO hOs
  have bO1_0 : BoxAt X2 O1 0 (.int .i64 (o.p : Int)) := hbx 0 _ rfl
  have bO1_1 : BoxAt X2 O1 1 (.int .i64 (o.f : Int)) := hbx 1 _ rfl
  have bO1_2 : BoxAt X2 O1 2 (.int .i64 (o.lo : Int)) := hbx 2 _ rfl
  have bO1_3 : BoxAt X2 O1 3 (.int .i64 (o.hi : Int)) := hbx 3 _ rfl
  have bO1_4 : BoxAt X2 O1 4 (.int .i64 (o.nd : Int)) := hbx 4 _ rfl
  have bO1_5 : BoxAt X2 O1 5 (.int .i64 (o.tn : Int)) := hbx 5 _ rfl
  have bO1_6 : BoxAt X2 O1 6 (.int .i64 (o.sl : Int)) := hbx 6 _ rfl
  clear hbx
  replace hE := hE.trans hb
  have hs3 := hb.size
  clear hb
  have lt4 := bO1_0.lt
  refine pl_step rfl (by kernel_rfl) (by kernel_rfl) (by kernel_rfl) (sn_new (us := #[.int .i64 0, .int .i64 0, .int .i64 0, .int .i64 0, .int .i64 0, .int .i64 0, .int .i64 0, .int .i64 0]) (t := 96) (by kernel_rfl) ?_)
  intro O5 X6 hO hOs hb hbx
  have hzO5 := hO; have hyO5 := hOs; clear hO hOs
  have bO5_0 : BoxAt X6 O5 0 (.int .i64 0) := hbx 0 _ rfl
  have bO5_1 : BoxAt X6 O5 1 (.int .i64 0) := hbx 1 _ rfl
  have bO5_2 : BoxAt X6 O5 2 (.int .i64 0) := hbx 2 _ rfl
  have bO5_3 : BoxAt X6 O5 3 (.int .i64 0) := hbx 3 _ rfl
  have bO5_4 : BoxAt X6 O5 4 (.int .i64 0) := hbx 4 _ rfl
  have bO5_5 : BoxAt X6 O5 5 (.int .i64 0) := hbx 5 _ rfl
  have bO5_6 : BoxAt X6 O5 6 (.int .i64 0) := hbx 6 _ rfl
  have bO5_7 : BoxAt X6 O5 7 (.int .i64 0) := hbx 7 _ rfl
  clear hbx
  replace hE := hE.trans hb
  replace bO1_0 := BoxAt.ext hb bO1_0
  replace bO1_1 := BoxAt.ext hb bO1_1
  replace bO1_2 := BoxAt.ext hb bO1_2
  replace bO1_3 := BoxAt.ext hb bO1_3
  replace bO1_4 := BoxAt.ext hb bO1_4
  replace bO1_5 := BoxAt.ext hb bO1_5
  replace bO1_6 := BoxAt.ext hb bO1_6
  have hs7 := hb.size
  clear hb
  have lt8 := bO5_0.lt
  refine pl_take (.bool false) rfl (by kernel_rfl) (by kernel_rfl) (by kernel_rfl) (by kernel_rfl) ?_
  refine pl_nil ?_
  refine qw_then ?_
  refine cw_seq ?_
  refine cw_plain ?_
  refine pl_take (.int .i64 (t : Int)) rfl (by kernel_rfl) (by kernel_rfl) (by kernel_rfl) (by kernel_rfl) ?_
  refine pl_step rfl (by kernel_rfl) (by kernel_rfl) (by kernel_rfl) (sn_call (f := 87) (args := #[.int .i64 (t : Int), .int .i64 0, .int .i64 1000000]) (by kernel_rfl) ((orbit_in_r (r := true) t 0 1000000 _ (hat.1.1)).mono ?_))
  rintro e w9 ⟨rfl, hb⟩
  replace hE := hE.trans hb
  replace bO1_0 := BoxAt.ext hb bO1_0
  replace bO1_1 := BoxAt.ext hb bO1_1
  replace bO1_2 := BoxAt.ext hb bO1_2
  replace bO1_3 := BoxAt.ext hb bO1_3
  replace bO1_4 := BoxAt.ext hb bO1_4
  replace bO1_5 := BoxAt.ext hb bO1_5
  replace bO1_6 := BoxAt.ext hb bO1_6
  replace bO5_0 := BoxAt.ext hb bO5_0
  replace bO5_1 := BoxAt.ext hb bO5_1
  replace bO5_2 := BoxAt.ext hb bO5_2
  replace bO5_3 := BoxAt.ext hb bO5_3
  replace bO5_4 := BoxAt.ext hb bO5_4
  replace bO5_5 := BoxAt.ext hb bO5_5
  replace bO5_6 := BoxAt.ext hb bO5_6
  replace bO5_7 := BoxAt.ext hb bO5_7
  have hs10 := hb.size
  clear hb
  refine ⟨_, rfl, ?_⟩
  refine pl_take (.bool true) rfl (by kernel_rfl) (by kernel_rfl) (by kernel_rfl) (by kernel_rfl) ?_
  refine pl_take (.int .i64 (d : Int)) rfl (by kernel_rfl) (by kernel_rfl) (by kernel_rfl) (by kernel_rfl) ?_
  refine pl_step rfl (by kernel_rfl) (by kernel_rfl) (by kernel_rfl) (sn_call (f := 87) (args := #[.int .i64 (d : Int), .int .i64 (-10 : Int), .int .i64 10]) (by kernel_rfl) ((orbit_in_r (r := true) d (-10) 10 _ (hat.1.2)).mono ?_))
  rintro e w11 ⟨rfl, hb⟩
  replace hE := hE.trans hb
  replace bO1_0 := BoxAt.ext hb bO1_0
  replace bO1_1 := BoxAt.ext hb bO1_1
  replace bO1_2 := BoxAt.ext hb bO1_2
  replace bO1_3 := BoxAt.ext hb bO1_3
  replace bO1_4 := BoxAt.ext hb bO1_4
  replace bO1_5 := BoxAt.ext hb bO1_5
  replace bO1_6 := BoxAt.ext hb bO1_6
  replace bO5_0 := BoxAt.ext hb bO5_0
  replace bO5_1 := BoxAt.ext hb bO5_1
  replace bO5_2 := BoxAt.ext hb bO5_2
  replace bO5_3 := BoxAt.ext hb bO5_3
  replace bO5_4 := BoxAt.ext hb bO5_4
  replace bO5_5 := BoxAt.ext hb bO5_5
  replace bO5_6 := BoxAt.ext hb bO5_6
  replace bO5_7 := BoxAt.ext hb bO5_7
  have hs12 := hb.size
  clear hb
  refine ⟨_, rfl, ?_⟩
  refine pl_take (.bool true) rfl (by kernel_rfl) (by kernel_rfl) (by kernel_rfl) (by kernel_rfl) ?_
  refine pl_take (.bool true) rfl (by kernel_rfl) (by kernel_rfl) (by kernel_rfl) (by kernel_rfl) ?_
  refine pl_take (.agg #[.int .i64 (o.p : Int), .int .i64 (o.f : Int), .int .i64 (o.lo : Int), .int .i64 (o.hi : Int), .int .i64 (o.nd : Int), .int .i64 (o.tn : Int), .int .i64 (o.sl : Int)]) rfl (by kernel_rfl) (by kernel_rfl) (by kernel_rfl) (ex_load rfl (by kernel_rfl) (ld24 (bO1_0.1) (bO1_1.1) (bO1_2.1) (bO1_3.1) (bO1_4.1) (bO1_5.1) (bO1_6.1))) ?_
  refine pl_step rfl (by kernel_rfl) (by kernel_rfl) (by kernel_rfl) (sn_call (f := 56) (args := #[.agg #[.int .i64 (o.p : Int), .int .i64 (o.f : Int), .int .i64 (o.lo : Int), .int .i64 (o.hi : Int), .int .i64 (o.nd : Int), .int .i64 (o.tn : Int), .int .i64 (o.sl : Int)]]) (by kernel_rfl) ((oValid_r (r := true) _ (hat.2)).mono ?_))
  rintro e w13 ⟨rfl, hb⟩
  replace hE := hE.trans hb
  replace bO1_0 := BoxAt.ext hb bO1_0
  replace bO1_1 := BoxAt.ext hb bO1_1
  replace bO1_2 := BoxAt.ext hb bO1_2
  replace bO1_3 := BoxAt.ext hb bO1_3
  replace bO1_4 := BoxAt.ext hb bO1_4
  replace bO1_5 := BoxAt.ext hb bO1_5
  replace bO1_6 := BoxAt.ext hb bO1_6
  replace bO5_0 := BoxAt.ext hb bO5_0
  replace bO5_1 := BoxAt.ext hb bO5_1
  replace bO5_2 := BoxAt.ext hb bO5_2
  replace bO5_3 := BoxAt.ext hb bO5_3
  replace bO5_4 := BoxAt.ext hb bO5_4
  replace bO5_5 := BoxAt.ext hb bO5_5
  replace bO5_6 := BoxAt.ext hb bO5_6
  replace bO5_7 := BoxAt.ext hb bO5_7
  have hs14 := hb.size
  clear hb
  refine ⟨_, rfl, ?_⟩
  refine pl_take (.bool true) rfl (by kernel_rfl) (by kernel_rfl) (by kernel_rfl) (by kernel_rfl) ?_
  refine pl_take (.bool true) rfl (by kernel_rfl) (by kernel_rfl) (by kernel_rfl) (by kernel_rfl) ?_
  refine pl_nil ?_
  refine qw_then ?_
  refine cw_clean [1, 2, 3, 6, 8] (ws' := [(1, .int .i64 (t : Int)), (2, .int .i64 (d : Int)), (3, .pointer (some ⟨O1, 0, none⟩)), (6, .pointer (some ⟨O5, 0, none⟩)), (8, .bool true)]) (by kernel_rfl) (fun L => ?_)
  refine cw_seq ?_
  refine cw_plain ?_
  refine pl_take (.agg #[.int .i64 (o.p : Int), .int .i64 (o.f : Int), .int .i64 (o.lo : Int), .int .i64 (o.hi : Int), .int .i64 (o.nd : Int), .int .i64 (o.tn : Int), .int .i64 (o.sl : Int)]) rfl (by kernel_rfl) (by kernel_rfl) (by kernel_rfl) (ex_load rfl (by kernel_rfl) (ld24 (bO1_0.1) (bO1_1.1) (bO1_2.1) (bO1_3.1) (bO1_4.1) (bO1_5.1) (bO1_6.1))) ?_
  refine pl_take (.int .i64 (t : Int)) rfl (by kernel_rfl) (by kernel_rfl) (by kernel_rfl) (by kernel_rfl) ?_
  refine pl_take (.int .i64 (d : Int)) rfl (by kernel_rfl) (by kernel_rfl) (by kernel_rfl) (by kernel_rfl) ?_
  refine pl_take (.int .i64 (t - d : Int)) rfl (by kernel_rfl) (by kernel_rfl) (by kernel_rfl) (ev_wrap (by kernel_rfl) (by omega) (by omega)) ?_
  refine pl_take (.agg #[.int .i64 (o.p : Int), .int .i64 (o.f : Int), .int .i64 (o.lo : Int), .int .i64 (o.hi : Int), .int .i64 (o.nd : Int), .int .i64 (o.tn : Int), .int .i64 (o.sl : Int), .int .i64 (t - d : Int)]) rfl (by kernel_rfl) (by kernel_rfl) (by kernel_rfl) (by kernel_rfl) ?_
  refine pl_take (.bool true) rfl (by kernel_rfl) (by kernel_rfl) (by kernel_rfl) (by kernel_rfl) ?_
  refine pl_put rfl (by kernel_rfl) (by kernel_rfl) (sn_setK8 (O := O5) (j := 0) (v0 := .int .i64 (o.p : Int)) (v1 := .int .i64 (o.f : Int)) (v2 := .int .i64 (o.lo : Int)) (v3 := .int .i64 (o.hi : Int)) (v4 := .int .i64 (o.nd : Int)) (v5 := .int .i64 (o.tn : Int)) (v6 := .int .i64 (o.sl : Int)) (v7 := .int .i64 (t - d : Int)) (ex_store (p := .pointer (some ⟨O5, 0, none⟩)) (v := .agg #[.int .i64 (o.p : Int), .int .i64 (o.f : Int), .int .i64 (o.lo : Int), .int .i64 (o.hi : Int), .int .i64 (o.nd : Int), .int .i64 (o.tn : Int), .int .i64 (o.sl : Int), .int .i64 (t - d : Int)]) rfl (by kernel_rfl) (by kernel_rfl) (st96 bO5_0.1 bO5_0.2 bO5_1.1 bO5_1.2 bO5_2.1 bO5_2.2 bO5_3.1 bO5_3.2 bO5_4.1 bO5_4.2 bO5_5.1 bO5_5.2 bO5_6.1 bO5_6.2 bO5_7.1 bO5_7.2)) bO5_0 bO5_1 bO5_2 bO5_3 bO5_4 bO5_5 bO5_6 bO5_7 ?_)
  intro X15 ho hv0 hv1 hv2 hv3 hv4 hv5 hv6 hv7 hk
  replace hE := ho.ext hE (Nat.le_trans hs3 (Nat.le_of_eq hzO5))
  replace bO1_0 := ho.box (Nat.ne_of_gt (Nat.lt_of_lt_of_le lt4 (Nat.le_of_eq hzO5))) bO1_0
  replace bO1_1 := ho.box (Nat.ne_of_gt (Nat.lt_of_lt_of_le lt4 (Nat.le_of_eq hzO5))) bO1_1
  replace bO1_2 := ho.box (Nat.ne_of_gt (Nat.lt_of_lt_of_le lt4 (Nat.le_of_eq hzO5))) bO1_2
  replace bO1_3 := ho.box (Nat.ne_of_gt (Nat.lt_of_lt_of_le lt4 (Nat.le_of_eq hzO5))) bO1_3
  replace bO1_4 := ho.box (Nat.ne_of_gt (Nat.lt_of_lt_of_le lt4 (Nat.le_of_eq hzO5))) bO1_4
  replace bO1_5 := ho.box (Nat.ne_of_gt (Nat.lt_of_lt_of_le lt4 (Nat.le_of_eq hzO5))) bO1_5
  replace bO1_6 := ho.box (Nat.ne_of_gt (Nat.lt_of_lt_of_le lt4 (Nat.le_of_eq hzO5))) bO1_6
  have hs16 : w13.heap.size ≤ X15.heap.size := Nat.le_of_eq ho.size.symm
  clear ho hk bO5_0 bO5_1 bO5_2 bO5_3 bO5_4 bO5_5 bO5_6 bO5_7
  have bO5_0 := hv0; clear hv0
  have bO5_1 := hv1; clear hv1
  have bO5_2 := hv2; clear hv2
  have bO5_3 := hv3; clear hv3
  have bO5_4 := hv4; clear hv4
  have bO5_5 := hv5; clear hv5
  have bO5_6 := hv6; clear hv6
  have bO5_7 := hv7; clear hv7
  refine pl_take (.bool true) rfl (by kernel_rfl) (by kernel_rfl) (by kernel_rfl) (by kernel_rfl) ?_
  refine pl_nil ?_
  refine qw_then ?_
  refine cw_ret ?_
  refine qw_ret [.agg #[.int .i64 (o.p : Int), .int .i64 (o.f : Int), .int .i64 (o.lo : Int), .int .i64 (o.hi : Int), .int .i64 (o.nd : Int), .int .i64 (o.tn : Int), .int .i64 (o.sl : Int), .int .i64 (t - d : Int)], .bool true] rfl ⟨⟨_, by kernel_rfl, res_ld (ld96 (bO5_0.1) (bO5_1.1) (bO5_2.1) (bO5_3.1) (bO5_4.1) (bO5_5.1) (bO5_6.1) (bO5_7.1))⟩, (by kernel_rfl), trivial⟩ ?_
  exact ⟨rfl, hE⟩
set_option maxRecDepth 1000000 in
set_option maxHeartbeats 4000000 in
theorem at_n (o : Orb) (t d : Int) (w : World) (hat : Orb.atB o t d = false) : Calls Try.prog 63 #[.agg #[.int .i64 o.p, .int .i64 o.f, .int .i64 o.lo, .int .i64 o.hi, .int .i64 o.nd, .int .i64 o.tn, .int .i64 o.sl], .int .i64 t, .int .i64 d] w fun e w' => ∃ m : Int, e = .returned (.tuple #[.agg #[.int .i64 o.p, .int .i64 o.f, .int .i64 o.lo, .int .i64 o.hi, .int .i64 o.nd, .int .i64 o.tn, .int .i64 o.sl, .int .i64 m], .bool false]) ∧ Ext w w' := by
  refine calls_cw 25 [(2, .int .i64 (d : Int)), (1, .int .i64 (t : Int)), (0, .agg #[.int .i64 (o.p : Int), .int .i64 (o.f : Int), .int .i64 (o.lo : Int), .int .i64 (o.hi : Int), .int .i64 (o.nd : Int), .int .i64 (o.tn : Int), .int .i64 (o.sl : Int)])] Try.func63 rfl Try.ntmps63 (by kernel_rfl) (by kernel_rfl) (fun L => ?_)
  have hE : Ext w w := Ext.refl w
  refine cw_seq ?_
  refine cw_plain ?_
  refine pl_step rfl (by kernel_rfl) (by kernel_rfl) (by kernel_rfl) (sn_new (us := #[.int .i64 (o.p : Int), .int .i64 (o.f : Int), .int .i64 (o.lo : Int), .int .i64 (o.hi : Int), .int .i64 (o.nd : Int), .int .i64 (o.tn : Int), .int .i64 (o.sl : Int)]) (t := 24) (by kernel_rfl) ?_)
  intro O1 X2 hO hOs hb hbx
  have hzO1 := hO; have hyO1 := hOs; clear hO hOs
  have bO1_0 : BoxAt X2 O1 0 (.int .i64 (o.p : Int)) := hbx 0 _ rfl
  have bO1_1 : BoxAt X2 O1 1 (.int .i64 (o.f : Int)) := hbx 1 _ rfl
  have bO1_2 : BoxAt X2 O1 2 (.int .i64 (o.lo : Int)) := hbx 2 _ rfl
  have bO1_3 : BoxAt X2 O1 3 (.int .i64 (o.hi : Int)) := hbx 3 _ rfl
  have bO1_4 : BoxAt X2 O1 4 (.int .i64 (o.nd : Int)) := hbx 4 _ rfl
  have bO1_5 : BoxAt X2 O1 5 (.int .i64 (o.tn : Int)) := hbx 5 _ rfl
  have bO1_6 : BoxAt X2 O1 6 (.int .i64 (o.sl : Int)) := hbx 6 _ rfl
  clear hbx
  replace hE := hE.trans hb
  have hs3 := hb.size
  clear hb
  have lt4 := bO1_0.lt
  refine pl_step rfl (by kernel_rfl) (by kernel_rfl) (by kernel_rfl) (sn_new (us := #[.int .i64 0, .int .i64 0, .int .i64 0, .int .i64 0, .int .i64 0, .int .i64 0, .int .i64 0, .int .i64 0]) (t := 96) (by kernel_rfl) ?_)
  intro O5 X6 hO hOs hb hbx
  have hzO5 := hO; have hyO5 := hOs; clear hO hOs
  have bO5_0 : BoxAt X6 O5 0 (.int .i64 0) := hbx 0 _ rfl
  have bO5_1 : BoxAt X6 O5 1 (.int .i64 0) := hbx 1 _ rfl
  have bO5_2 : BoxAt X6 O5 2 (.int .i64 0) := hbx 2 _ rfl
  have bO5_3 : BoxAt X6 O5 3 (.int .i64 0) := hbx 3 _ rfl
  have bO5_4 : BoxAt X6 O5 4 (.int .i64 0) := hbx 4 _ rfl
  have bO5_5 : BoxAt X6 O5 5 (.int .i64 0) := hbx 5 _ rfl
  have bO5_6 : BoxAt X6 O5 6 (.int .i64 0) := hbx 6 _ rfl
  have bO5_7 : BoxAt X6 O5 7 (.int .i64 0) := hbx 7 _ rfl
  clear hbx
  replace hE := hE.trans hb
  replace bO1_0 := BoxAt.ext hb bO1_0
  replace bO1_1 := BoxAt.ext hb bO1_1
  replace bO1_2 := BoxAt.ext hb bO1_2
  replace bO1_3 := BoxAt.ext hb bO1_3
  replace bO1_4 := BoxAt.ext hb bO1_4
  replace bO1_5 := BoxAt.ext hb bO1_5
  replace bO1_6 := BoxAt.ext hb bO1_6
  have hs7 := hb.size
  clear hb
  have lt8 := bO5_0.lt
  refine pl_take (.bool false) rfl (by kernel_rfl) (by kernel_rfl) (by kernel_rfl) (by kernel_rfl) ?_
  refine pl_nil ?_
  refine qw_then ?_
  refine cw_seq ?_
  refine cw_plain ?_
  refine pl_take (.int .i64 (t : Int)) rfl (by kernel_rfl) (by kernel_rfl) (by kernel_rfl) (by kernel_rfl) ?_
  rcases Bool.eq_false_or_eq_true (Globe.inB t 0 1000000) with hb9 | hb9
  ·
    have hq10 := Globe.inB_t.1 hb9
    refine pl_step rfl (by kernel_rfl) (by kernel_rfl) (by kernel_rfl) (sn_call (f := 87) (args := #[.int .i64 (t : Int), .int .i64 0, .int .i64 1000000]) (by kernel_rfl) ((orbit_in_r (r := true) t 0 1000000 _ (hb9)).mono ?_))
    rintro e w11 ⟨rfl, hb⟩
    replace hE := hE.trans hb
    replace bO1_0 := BoxAt.ext hb bO1_0
    replace bO1_1 := BoxAt.ext hb bO1_1
    replace bO1_2 := BoxAt.ext hb bO1_2
    replace bO1_3 := BoxAt.ext hb bO1_3
    replace bO1_4 := BoxAt.ext hb bO1_4
    replace bO1_5 := BoxAt.ext hb bO1_5
    replace bO1_6 := BoxAt.ext hb bO1_6
    replace bO5_0 := BoxAt.ext hb bO5_0
    replace bO5_1 := BoxAt.ext hb bO5_1
    replace bO5_2 := BoxAt.ext hb bO5_2
    replace bO5_3 := BoxAt.ext hb bO5_3
    replace bO5_4 := BoxAt.ext hb bO5_4
    replace bO5_5 := BoxAt.ext hb bO5_5
    replace bO5_6 := BoxAt.ext hb bO5_6
    replace bO5_7 := BoxAt.ext hb bO5_7
    have hs12 := hb.size
    clear hb
    refine ⟨_, rfl, ?_⟩
    refine pl_take (.bool true) rfl (by kernel_rfl) (by kernel_rfl) (by kernel_rfl) (by kernel_rfl) ?_
    refine pl_take (.int .i64 (d : Int)) rfl (by kernel_rfl) (by kernel_rfl) (by kernel_rfl) (by kernel_rfl) ?_
    rcases Bool.eq_false_or_eq_true (Globe.inB d (-10) 10) with hb13 | hb13
    ·
      have hq14 := Globe.inB_t.1 hb13
      refine pl_step rfl (by kernel_rfl) (by kernel_rfl) (by kernel_rfl) (sn_call (f := 87) (args := #[.int .i64 (d : Int), .int .i64 (-10 : Int), .int .i64 10]) (by kernel_rfl) ((orbit_in_r (r := true) d (-10) 10 _ (hb13)).mono ?_))
      rintro e w15 ⟨rfl, hb⟩
      replace hE := hE.trans hb
      replace bO1_0 := BoxAt.ext hb bO1_0
      replace bO1_1 := BoxAt.ext hb bO1_1
      replace bO1_2 := BoxAt.ext hb bO1_2
      replace bO1_3 := BoxAt.ext hb bO1_3
      replace bO1_4 := BoxAt.ext hb bO1_4
      replace bO1_5 := BoxAt.ext hb bO1_5
      replace bO1_6 := BoxAt.ext hb bO1_6
      replace bO5_0 := BoxAt.ext hb bO5_0
      replace bO5_1 := BoxAt.ext hb bO5_1
      replace bO5_2 := BoxAt.ext hb bO5_2
      replace bO5_3 := BoxAt.ext hb bO5_3
      replace bO5_4 := BoxAt.ext hb bO5_4
      replace bO5_5 := BoxAt.ext hb bO5_5
      replace bO5_6 := BoxAt.ext hb bO5_6
      replace bO5_7 := BoxAt.ext hb bO5_7
      have hs16 := hb.size
      clear hb
      refine ⟨_, rfl, ?_⟩
      refine pl_take (.bool true) rfl (by kernel_rfl) (by kernel_rfl) (by kernel_rfl) (by kernel_rfl) ?_
      refine pl_take (.bool true) rfl (by kernel_rfl) (by kernel_rfl) (by kernel_rfl) (by kernel_rfl) ?_
      refine pl_take (.agg #[.int .i64 (o.p : Int), .int .i64 (o.f : Int), .int .i64 (o.lo : Int), .int .i64 (o.hi : Int), .int .i64 (o.nd : Int), .int .i64 (o.tn : Int), .int .i64 (o.sl : Int)]) rfl (by kernel_rfl) (by kernel_rfl) (by kernel_rfl) (ex_load rfl (by kernel_rfl) (ld24 (bO1_0.1) (bO1_1.1) (bO1_2.1) (bO1_3.1) (bO1_4.1) (bO1_5.1) (bO1_6.1))) ?_
      rcases Bool.eq_false_or_eq_true (Orb.ok o) with hb17 | hb17
      ·
        refine pl_step rfl (by kernel_rfl) (by kernel_rfl) (by kernel_rfl) (sn_call (f := 56) (args := #[.agg #[.int .i64 (o.p : Int), .int .i64 (o.f : Int), .int .i64 (o.lo : Int), .int .i64 (o.hi : Int), .int .i64 (o.nd : Int), .int .i64 (o.tn : Int), .int .i64 (o.sl : Int)]]) (by kernel_rfl) ((oValid_r (r := true) _ (hb17)).mono ?_))
        rintro e w18 ⟨rfl, hb⟩
        replace hE := hE.trans hb
        replace bO1_0 := BoxAt.ext hb bO1_0
        replace bO1_1 := BoxAt.ext hb bO1_1
        replace bO1_2 := BoxAt.ext hb bO1_2
        replace bO1_3 := BoxAt.ext hb bO1_3
        replace bO1_4 := BoxAt.ext hb bO1_4
        replace bO1_5 := BoxAt.ext hb bO1_5
        replace bO1_6 := BoxAt.ext hb bO1_6
        replace bO5_0 := BoxAt.ext hb bO5_0
        replace bO5_1 := BoxAt.ext hb bO5_1
        replace bO5_2 := BoxAt.ext hb bO5_2
        replace bO5_3 := BoxAt.ext hb bO5_3
        replace bO5_4 := BoxAt.ext hb bO5_4
        replace bO5_5 := BoxAt.ext hb bO5_5
        replace bO5_6 := BoxAt.ext hb bO5_6
        replace bO5_7 := BoxAt.ext hb bO5_7
        have hs19 := hb.size
        clear hb
        refine ⟨_, rfl, ?_⟩
        refine pl_take (.bool true) rfl (by kernel_rfl) (by kernel_rfl) (by kernel_rfl) (by kernel_rfl) ?_
        refine pl_take (.bool true) rfl (by kernel_rfl) (by kernel_rfl) (by kernel_rfl) (by kernel_rfl) ?_
        refine pl_nil ?_
        refine qw_then ?_
        refine cw_clean [1, 2, 3, 6, 8] (ws' := [(1, .int .i64 (t : Int)), (2, .int .i64 (d : Int)), (3, .pointer (some ⟨O1, 0, none⟩)), (6, .pointer (some ⟨O5, 0, none⟩)), (8, .bool true)]) (by kernel_rfl) (fun L => ?_)
        refine cw_seq ?_
        refine cw_plain ?_
        refine pl_take (.agg #[.int .i64 (o.p : Int), .int .i64 (o.f : Int), .int .i64 (o.lo : Int), .int .i64 (o.hi : Int), .int .i64 (o.nd : Int), .int .i64 (o.tn : Int), .int .i64 (o.sl : Int)]) rfl (by kernel_rfl) (by kernel_rfl) (by kernel_rfl) (ex_load rfl (by kernel_rfl) (ld24 (bO1_0.1) (bO1_1.1) (bO1_2.1) (bO1_3.1) (bO1_4.1) (bO1_5.1) (bO1_6.1))) ?_
        refine pl_take (.int .i64 (t : Int)) rfl (by kernel_rfl) (by kernel_rfl) (by kernel_rfl) (by kernel_rfl) ?_
        refine pl_take (.int .i64 (d : Int)) rfl (by kernel_rfl) (by kernel_rfl) (by kernel_rfl) (by kernel_rfl) ?_
        refine pl_take (.int .i64 (IntKind.i64.wrap (t - d) : Int)) rfl (by kernel_rfl) (by kernel_rfl) (by kernel_rfl) (by kernel_rfl) ?_
        refine pl_take (.agg #[.int .i64 (o.p : Int), .int .i64 (o.f : Int), .int .i64 (o.lo : Int), .int .i64 (o.hi : Int), .int .i64 (o.nd : Int), .int .i64 (o.tn : Int), .int .i64 (o.sl : Int), .int .i64 (IntKind.i64.wrap (t - d) : Int)]) rfl (by kernel_rfl) (by kernel_rfl) (by kernel_rfl) (by kernel_rfl) ?_
        refine pl_take (.bool true) rfl (by kernel_rfl) (by kernel_rfl) (by kernel_rfl) (by kernel_rfl) ?_
        refine pl_put rfl (by kernel_rfl) (by kernel_rfl) (sn_setK8 (O := O5) (j := 0) (v0 := .int .i64 (o.p : Int)) (v1 := .int .i64 (o.f : Int)) (v2 := .int .i64 (o.lo : Int)) (v3 := .int .i64 (o.hi : Int)) (v4 := .int .i64 (o.nd : Int)) (v5 := .int .i64 (o.tn : Int)) (v6 := .int .i64 (o.sl : Int)) (v7 := .int .i64 (IntKind.i64.wrap (t - d) : Int)) (ex_store (p := .pointer (some ⟨O5, 0, none⟩)) (v := .agg #[.int .i64 (o.p : Int), .int .i64 (o.f : Int), .int .i64 (o.lo : Int), .int .i64 (o.hi : Int), .int .i64 (o.nd : Int), .int .i64 (o.tn : Int), .int .i64 (o.sl : Int), .int .i64 (IntKind.i64.wrap (t - d) : Int)]) rfl (by kernel_rfl) (by kernel_rfl) (st96 bO5_0.1 bO5_0.2 bO5_1.1 bO5_1.2 bO5_2.1 bO5_2.2 bO5_3.1 bO5_3.2 bO5_4.1 bO5_4.2 bO5_5.1 bO5_5.2 bO5_6.1 bO5_6.2 bO5_7.1 bO5_7.2)) bO5_0 bO5_1 bO5_2 bO5_3 bO5_4 bO5_5 bO5_6 bO5_7 ?_)
        intro X20 ho hv0 hv1 hv2 hv3 hv4 hv5 hv6 hv7 hk
        replace hE := ho.ext hE (Nat.le_trans hs3 (Nat.le_of_eq hzO5))
        replace bO1_0 := ho.box (Nat.ne_of_gt (Nat.lt_of_lt_of_le lt4 (Nat.le_of_eq hzO5))) bO1_0
        replace bO1_1 := ho.box (Nat.ne_of_gt (Nat.lt_of_lt_of_le lt4 (Nat.le_of_eq hzO5))) bO1_1
        replace bO1_2 := ho.box (Nat.ne_of_gt (Nat.lt_of_lt_of_le lt4 (Nat.le_of_eq hzO5))) bO1_2
        replace bO1_3 := ho.box (Nat.ne_of_gt (Nat.lt_of_lt_of_le lt4 (Nat.le_of_eq hzO5))) bO1_3
        replace bO1_4 := ho.box (Nat.ne_of_gt (Nat.lt_of_lt_of_le lt4 (Nat.le_of_eq hzO5))) bO1_4
        replace bO1_5 := ho.box (Nat.ne_of_gt (Nat.lt_of_lt_of_le lt4 (Nat.le_of_eq hzO5))) bO1_5
        replace bO1_6 := ho.box (Nat.ne_of_gt (Nat.lt_of_lt_of_le lt4 (Nat.le_of_eq hzO5))) bO1_6
        have hs21 : w18.heap.size ≤ X20.heap.size := Nat.le_of_eq ho.size.symm
        clear ho hk bO5_0 bO5_1 bO5_2 bO5_3 bO5_4 bO5_5 bO5_6 bO5_7
        have bO5_0 := hv0; clear hv0
        have bO5_1 := hv1; clear hv1
        have bO5_2 := hv2; clear hv2
        have bO5_3 := hv3; clear hv3
        have bO5_4 := hv4; clear hv4
        have bO5_5 := hv5; clear hv5
        have bO5_6 := hv6; clear hv6
        have bO5_7 := hv7; clear hv7
        refine pl_take (.bool true) rfl (by kernel_rfl) (by kernel_rfl) (by kernel_rfl) (by kernel_rfl) ?_
        refine pl_nil ?_
        refine qw_then ?_
        refine cw_ret ?_
        refine qw_ret [.agg #[.int .i64 (o.p : Int), .int .i64 (o.f : Int), .int .i64 (o.lo : Int), .int .i64 (o.hi : Int), .int .i64 (o.nd : Int), .int .i64 (o.tn : Int), .int .i64 (o.sl : Int), .int .i64 (IntKind.i64.wrap (t - d) : Int)], .bool true] rfl ⟨⟨_, by kernel_rfl, res_ld (ld96 (bO5_0.1) (bO5_1.1) (bO5_2.1) (bO5_3.1) (bO5_4.1) (bO5_5.1) (bO5_6.1) (bO5_7.1))⟩, (by kernel_rfl), trivial⟩ ?_
        simp [Orb.atB, hb9, hb13, hb17] at hat
      ·
        refine pl_step rfl (by kernel_rfl) (by kernel_rfl) (by kernel_rfl) (sn_call (f := 56) (args := #[.agg #[.int .i64 (o.p : Int), .int .i64 (o.f : Int), .int .i64 (o.lo : Int), .int .i64 (o.hi : Int), .int .i64 (o.nd : Int), .int .i64 (o.tn : Int), .int .i64 (o.sl : Int)]]) (by kernel_rfl) ((oValid_r (r := false) _ (hb17)).mono ?_))
        rintro e w22 ⟨rfl, hb⟩
        replace hE := hE.trans hb
        replace bO1_0 := BoxAt.ext hb bO1_0
        replace bO1_1 := BoxAt.ext hb bO1_1
        replace bO1_2 := BoxAt.ext hb bO1_2
        replace bO1_3 := BoxAt.ext hb bO1_3
        replace bO1_4 := BoxAt.ext hb bO1_4
        replace bO1_5 := BoxAt.ext hb bO1_5
        replace bO1_6 := BoxAt.ext hb bO1_6
        replace bO5_0 := BoxAt.ext hb bO5_0
        replace bO5_1 := BoxAt.ext hb bO5_1
        replace bO5_2 := BoxAt.ext hb bO5_2
        replace bO5_3 := BoxAt.ext hb bO5_3
        replace bO5_4 := BoxAt.ext hb bO5_4
        replace bO5_5 := BoxAt.ext hb bO5_5
        replace bO5_6 := BoxAt.ext hb bO5_6
        replace bO5_7 := BoxAt.ext hb bO5_7
        have hs23 := hb.size
        clear hb
        refine ⟨_, rfl, ?_⟩
        refine pl_take (.bool false) rfl (by kernel_rfl) (by kernel_rfl) (by kernel_rfl) (by kernel_rfl) ?_
        refine pl_take (.bool false) rfl (by kernel_rfl) (by kernel_rfl) (by kernel_rfl) (by kernel_rfl) ?_
        refine pl_nil ?_
        refine qw_then ?_
        refine cw_clean [1, 2, 3, 6, 8] (ws' := [(1, .int .i64 (t : Int)), (2, .int .i64 (d : Int)), (3, .pointer (some ⟨O1, 0, none⟩)), (6, .pointer (some ⟨O5, 0, none⟩)), (8, .bool false)]) (by kernel_rfl) (fun L => ?_)
        refine cw_seq ?_
        refine cw_plain ?_
        refine pl_take (.agg #[.int .i64 (o.p : Int), .int .i64 (o.f : Int), .int .i64 (o.lo : Int), .int .i64 (o.hi : Int), .int .i64 (o.nd : Int), .int .i64 (o.tn : Int), .int .i64 (o.sl : Int)]) rfl (by kernel_rfl) (by kernel_rfl) (by kernel_rfl) (ex_load rfl (by kernel_rfl) (ld24 (bO1_0.1) (bO1_1.1) (bO1_2.1) (bO1_3.1) (bO1_4.1) (bO1_5.1) (bO1_6.1))) ?_
        refine pl_take (.int .i64 (t : Int)) rfl (by kernel_rfl) (by kernel_rfl) (by kernel_rfl) (by kernel_rfl) ?_
        refine pl_take (.int .i64 (d : Int)) rfl (by kernel_rfl) (by kernel_rfl) (by kernel_rfl) (by kernel_rfl) ?_
        refine pl_take (.int .i64 (IntKind.i64.wrap (t - d) : Int)) rfl (by kernel_rfl) (by kernel_rfl) (by kernel_rfl) (by kernel_rfl) ?_
        refine pl_take (.agg #[.int .i64 (o.p : Int), .int .i64 (o.f : Int), .int .i64 (o.lo : Int), .int .i64 (o.hi : Int), .int .i64 (o.nd : Int), .int .i64 (o.tn : Int), .int .i64 (o.sl : Int), .int .i64 (IntKind.i64.wrap (t - d) : Int)]) rfl (by kernel_rfl) (by kernel_rfl) (by kernel_rfl) (by kernel_rfl) ?_
        refine pl_take (.bool false) rfl (by kernel_rfl) (by kernel_rfl) (by kernel_rfl) (by kernel_rfl) ?_
        refine pl_put rfl (by kernel_rfl) (by kernel_rfl) (sn_setK8 (O := O5) (j := 0) (v0 := .int .i64 (o.p : Int)) (v1 := .int .i64 (o.f : Int)) (v2 := .int .i64 (o.lo : Int)) (v3 := .int .i64 (o.hi : Int)) (v4 := .int .i64 (o.nd : Int)) (v5 := .int .i64 (o.tn : Int)) (v6 := .int .i64 (o.sl : Int)) (v7 := .int .i64 (IntKind.i64.wrap (t - d) : Int)) (ex_store (p := .pointer (some ⟨O5, 0, none⟩)) (v := .agg #[.int .i64 (o.p : Int), .int .i64 (o.f : Int), .int .i64 (o.lo : Int), .int .i64 (o.hi : Int), .int .i64 (o.nd : Int), .int .i64 (o.tn : Int), .int .i64 (o.sl : Int), .int .i64 (IntKind.i64.wrap (t - d) : Int)]) rfl (by kernel_rfl) (by kernel_rfl) (st96 bO5_0.1 bO5_0.2 bO5_1.1 bO5_1.2 bO5_2.1 bO5_2.2 bO5_3.1 bO5_3.2 bO5_4.1 bO5_4.2 bO5_5.1 bO5_5.2 bO5_6.1 bO5_6.2 bO5_7.1 bO5_7.2)) bO5_0 bO5_1 bO5_2 bO5_3 bO5_4 bO5_5 bO5_6 bO5_7 ?_)
        intro X24 ho hv0 hv1 hv2 hv3 hv4 hv5 hv6 hv7 hk
        replace hE := ho.ext hE (Nat.le_trans hs3 (Nat.le_of_eq hzO5))
        replace bO1_0 := ho.box (Nat.ne_of_gt (Nat.lt_of_lt_of_le lt4 (Nat.le_of_eq hzO5))) bO1_0
        replace bO1_1 := ho.box (Nat.ne_of_gt (Nat.lt_of_lt_of_le lt4 (Nat.le_of_eq hzO5))) bO1_1
        replace bO1_2 := ho.box (Nat.ne_of_gt (Nat.lt_of_lt_of_le lt4 (Nat.le_of_eq hzO5))) bO1_2
        replace bO1_3 := ho.box (Nat.ne_of_gt (Nat.lt_of_lt_of_le lt4 (Nat.le_of_eq hzO5))) bO1_3
        replace bO1_4 := ho.box (Nat.ne_of_gt (Nat.lt_of_lt_of_le lt4 (Nat.le_of_eq hzO5))) bO1_4
        replace bO1_5 := ho.box (Nat.ne_of_gt (Nat.lt_of_lt_of_le lt4 (Nat.le_of_eq hzO5))) bO1_5
        replace bO1_6 := ho.box (Nat.ne_of_gt (Nat.lt_of_lt_of_le lt4 (Nat.le_of_eq hzO5))) bO1_6
        have hs25 : w22.heap.size ≤ X24.heap.size := Nat.le_of_eq ho.size.symm
        clear ho hk bO5_0 bO5_1 bO5_2 bO5_3 bO5_4 bO5_5 bO5_6 bO5_7
        have bO5_0 := hv0; clear hv0
        have bO5_1 := hv1; clear hv1
        have bO5_2 := hv2; clear hv2
        have bO5_3 := hv3; clear hv3
        have bO5_4 := hv4; clear hv4
        have bO5_5 := hv5; clear hv5
        have bO5_6 := hv6; clear hv6
        have bO5_7 := hv7; clear hv7
        refine pl_take (.bool false) rfl (by kernel_rfl) (by kernel_rfl) (by kernel_rfl) (by kernel_rfl) ?_
        refine pl_nil ?_
        refine qw_then ?_
        refine cw_ret ?_
        refine qw_ret [.agg #[.int .i64 (o.p : Int), .int .i64 (o.f : Int), .int .i64 (o.lo : Int), .int .i64 (o.hi : Int), .int .i64 (o.nd : Int), .int .i64 (o.tn : Int), .int .i64 (o.sl : Int), .int .i64 (IntKind.i64.wrap (t - d) : Int)], .bool false] rfl ⟨⟨_, by kernel_rfl, res_ld (ld96 (bO5_0.1) (bO5_1.1) (bO5_2.1) (bO5_3.1) (bO5_4.1) (bO5_5.1) (bO5_6.1) (bO5_7.1))⟩, (by kernel_rfl), trivial⟩ ?_
        exact ⟨_, rfl, hE⟩
    ·
      refine pl_step rfl (by kernel_rfl) (by kernel_rfl) (by kernel_rfl) (sn_call (f := 87) (args := #[.int .i64 (d : Int), .int .i64 (-10 : Int), .int .i64 10]) (by kernel_rfl) ((orbit_in_r (r := false) d (-10) 10 _ (hb13)).mono ?_))
      rintro e w26 ⟨rfl, hb⟩
      replace hE := hE.trans hb
      replace bO1_0 := BoxAt.ext hb bO1_0
      replace bO1_1 := BoxAt.ext hb bO1_1
      replace bO1_2 := BoxAt.ext hb bO1_2
      replace bO1_3 := BoxAt.ext hb bO1_3
      replace bO1_4 := BoxAt.ext hb bO1_4
      replace bO1_5 := BoxAt.ext hb bO1_5
      replace bO1_6 := BoxAt.ext hb bO1_6
      replace bO5_0 := BoxAt.ext hb bO5_0
      replace bO5_1 := BoxAt.ext hb bO5_1
      replace bO5_2 := BoxAt.ext hb bO5_2
      replace bO5_3 := BoxAt.ext hb bO5_3
      replace bO5_4 := BoxAt.ext hb bO5_4
      replace bO5_5 := BoxAt.ext hb bO5_5
      replace bO5_6 := BoxAt.ext hb bO5_6
      replace bO5_7 := BoxAt.ext hb bO5_7
      have hs27 := hb.size
      clear hb
      refine ⟨_, rfl, ?_⟩
      refine pl_take (.bool false) rfl (by kernel_rfl) (by kernel_rfl) (by kernel_rfl) (by kernel_rfl) ?_
      refine pl_take (.bool false) rfl (by kernel_rfl) (by kernel_rfl) (by kernel_rfl) (by kernel_rfl) ?_
      refine pl_skip rfl (by kernel_rfl) (by kernel_rfl) (by kernel_rfl) ?_
      refine pl_skip rfl (by kernel_rfl) (by kernel_rfl) (by kernel_rfl) ?_
      refine pl_take (.bool false) rfl (by kernel_rfl) (by kernel_rfl) (by kernel_rfl) (by kernel_rfl) ?_
      refine pl_take (.bool false) rfl (by kernel_rfl) (by kernel_rfl) (by kernel_rfl) (by kernel_rfl) ?_
      refine pl_nil ?_
      refine qw_then ?_
      refine cw_clean [1, 2, 3, 6, 8] (ws' := [(1, .int .i64 (t : Int)), (2, .int .i64 (d : Int)), (3, .pointer (some ⟨O1, 0, none⟩)), (6, .pointer (some ⟨O5, 0, none⟩)), (8, .bool false)]) (by kernel_rfl) (fun L => ?_)
      refine cw_seq ?_
      refine cw_plain ?_
      refine pl_take (.agg #[.int .i64 (o.p : Int), .int .i64 (o.f : Int), .int .i64 (o.lo : Int), .int .i64 (o.hi : Int), .int .i64 (o.nd : Int), .int .i64 (o.tn : Int), .int .i64 (o.sl : Int)]) rfl (by kernel_rfl) (by kernel_rfl) (by kernel_rfl) (ex_load rfl (by kernel_rfl) (ld24 (bO1_0.1) (bO1_1.1) (bO1_2.1) (bO1_3.1) (bO1_4.1) (bO1_5.1) (bO1_6.1))) ?_
      refine pl_take (.int .i64 (t : Int)) rfl (by kernel_rfl) (by kernel_rfl) (by kernel_rfl) (by kernel_rfl) ?_
      refine pl_take (.int .i64 (d : Int)) rfl (by kernel_rfl) (by kernel_rfl) (by kernel_rfl) (by kernel_rfl) ?_
      refine pl_take (.int .i64 (IntKind.i64.wrap (t - d) : Int)) rfl (by kernel_rfl) (by kernel_rfl) (by kernel_rfl) (by kernel_rfl) ?_
      refine pl_take (.agg #[.int .i64 (o.p : Int), .int .i64 (o.f : Int), .int .i64 (o.lo : Int), .int .i64 (o.hi : Int), .int .i64 (o.nd : Int), .int .i64 (o.tn : Int), .int .i64 (o.sl : Int), .int .i64 (IntKind.i64.wrap (t - d) : Int)]) rfl (by kernel_rfl) (by kernel_rfl) (by kernel_rfl) (by kernel_rfl) ?_
      refine pl_take (.bool false) rfl (by kernel_rfl) (by kernel_rfl) (by kernel_rfl) (by kernel_rfl) ?_
      refine pl_put rfl (by kernel_rfl) (by kernel_rfl) (sn_setK8 (O := O5) (j := 0) (v0 := .int .i64 (o.p : Int)) (v1 := .int .i64 (o.f : Int)) (v2 := .int .i64 (o.lo : Int)) (v3 := .int .i64 (o.hi : Int)) (v4 := .int .i64 (o.nd : Int)) (v5 := .int .i64 (o.tn : Int)) (v6 := .int .i64 (o.sl : Int)) (v7 := .int .i64 (IntKind.i64.wrap (t - d) : Int)) (ex_store (p := .pointer (some ⟨O5, 0, none⟩)) (v := .agg #[.int .i64 (o.p : Int), .int .i64 (o.f : Int), .int .i64 (o.lo : Int), .int .i64 (o.hi : Int), .int .i64 (o.nd : Int), .int .i64 (o.tn : Int), .int .i64 (o.sl : Int), .int .i64 (IntKind.i64.wrap (t - d) : Int)]) rfl (by kernel_rfl) (by kernel_rfl) (st96 bO5_0.1 bO5_0.2 bO5_1.1 bO5_1.2 bO5_2.1 bO5_2.2 bO5_3.1 bO5_3.2 bO5_4.1 bO5_4.2 bO5_5.1 bO5_5.2 bO5_6.1 bO5_6.2 bO5_7.1 bO5_7.2)) bO5_0 bO5_1 bO5_2 bO5_3 bO5_4 bO5_5 bO5_6 bO5_7 ?_)
      intro X28 ho hv0 hv1 hv2 hv3 hv4 hv5 hv6 hv7 hk
      replace hE := ho.ext hE (Nat.le_trans hs3 (Nat.le_of_eq hzO5))
      replace bO1_0 := ho.box (Nat.ne_of_gt (Nat.lt_of_lt_of_le lt4 (Nat.le_of_eq hzO5))) bO1_0
      replace bO1_1 := ho.box (Nat.ne_of_gt (Nat.lt_of_lt_of_le lt4 (Nat.le_of_eq hzO5))) bO1_1
      replace bO1_2 := ho.box (Nat.ne_of_gt (Nat.lt_of_lt_of_le lt4 (Nat.le_of_eq hzO5))) bO1_2
      replace bO1_3 := ho.box (Nat.ne_of_gt (Nat.lt_of_lt_of_le lt4 (Nat.le_of_eq hzO5))) bO1_3
      replace bO1_4 := ho.box (Nat.ne_of_gt (Nat.lt_of_lt_of_le lt4 (Nat.le_of_eq hzO5))) bO1_4
      replace bO1_5 := ho.box (Nat.ne_of_gt (Nat.lt_of_lt_of_le lt4 (Nat.le_of_eq hzO5))) bO1_5
      replace bO1_6 := ho.box (Nat.ne_of_gt (Nat.lt_of_lt_of_le lt4 (Nat.le_of_eq hzO5))) bO1_6
      have hs29 : w26.heap.size ≤ X28.heap.size := Nat.le_of_eq ho.size.symm
      clear ho hk bO5_0 bO5_1 bO5_2 bO5_3 bO5_4 bO5_5 bO5_6 bO5_7
      have bO5_0 := hv0; clear hv0
      have bO5_1 := hv1; clear hv1
      have bO5_2 := hv2; clear hv2
      have bO5_3 := hv3; clear hv3
      have bO5_4 := hv4; clear hv4
      have bO5_5 := hv5; clear hv5
      have bO5_6 := hv6; clear hv6
      have bO5_7 := hv7; clear hv7
      refine pl_take (.bool false) rfl (by kernel_rfl) (by kernel_rfl) (by kernel_rfl) (by kernel_rfl) ?_
      refine pl_nil ?_
      refine qw_then ?_
      refine cw_ret ?_
      refine qw_ret [.agg #[.int .i64 (o.p : Int), .int .i64 (o.f : Int), .int .i64 (o.lo : Int), .int .i64 (o.hi : Int), .int .i64 (o.nd : Int), .int .i64 (o.tn : Int), .int .i64 (o.sl : Int), .int .i64 (IntKind.i64.wrap (t - d) : Int)], .bool false] rfl ⟨⟨_, by kernel_rfl, res_ld (ld96 (bO5_0.1) (bO5_1.1) (bO5_2.1) (bO5_3.1) (bO5_4.1) (bO5_5.1) (bO5_6.1) (bO5_7.1))⟩, (by kernel_rfl), trivial⟩ ?_
      exact ⟨_, rfl, hE⟩
  ·
    refine pl_step rfl (by kernel_rfl) (by kernel_rfl) (by kernel_rfl) (sn_call (f := 87) (args := #[.int .i64 (t : Int), .int .i64 0, .int .i64 1000000]) (by kernel_rfl) ((orbit_in_r (r := false) t 0 1000000 _ (hb9)).mono ?_))
    rintro e w30 ⟨rfl, hb⟩
    replace hE := hE.trans hb
    replace bO1_0 := BoxAt.ext hb bO1_0
    replace bO1_1 := BoxAt.ext hb bO1_1
    replace bO1_2 := BoxAt.ext hb bO1_2
    replace bO1_3 := BoxAt.ext hb bO1_3
    replace bO1_4 := BoxAt.ext hb bO1_4
    replace bO1_5 := BoxAt.ext hb bO1_5
    replace bO1_6 := BoxAt.ext hb bO1_6
    replace bO5_0 := BoxAt.ext hb bO5_0
    replace bO5_1 := BoxAt.ext hb bO5_1
    replace bO5_2 := BoxAt.ext hb bO5_2
    replace bO5_3 := BoxAt.ext hb bO5_3
    replace bO5_4 := BoxAt.ext hb bO5_4
    replace bO5_5 := BoxAt.ext hb bO5_5
    replace bO5_6 := BoxAt.ext hb bO5_6
    replace bO5_7 := BoxAt.ext hb bO5_7
    have hs31 := hb.size
    clear hb
    refine ⟨_, rfl, ?_⟩
    refine pl_take (.bool false) rfl (by kernel_rfl) (by kernel_rfl) (by kernel_rfl) (by kernel_rfl) ?_
    refine pl_skip rfl (by kernel_rfl) (by kernel_rfl) (by kernel_rfl) ?_
    refine pl_skip rfl (by kernel_rfl) (by kernel_rfl) (by kernel_rfl) ?_
    refine pl_take (.bool false) rfl (by kernel_rfl) (by kernel_rfl) (by kernel_rfl) (by kernel_rfl) ?_
    refine pl_take (.bool false) rfl (by kernel_rfl) (by kernel_rfl) (by kernel_rfl) (by kernel_rfl) ?_
    refine pl_skip rfl (by kernel_rfl) (by kernel_rfl) (by kernel_rfl) ?_
    refine pl_skip rfl (by kernel_rfl) (by kernel_rfl) (by kernel_rfl) ?_
    refine pl_take (.bool false) rfl (by kernel_rfl) (by kernel_rfl) (by kernel_rfl) (by kernel_rfl) ?_
    refine pl_take (.bool false) rfl (by kernel_rfl) (by kernel_rfl) (by kernel_rfl) (by kernel_rfl) ?_
    refine pl_nil ?_
    refine qw_then ?_
    refine cw_clean [1, 2, 3, 6, 8] (ws' := [(1, .int .i64 (t : Int)), (2, .int .i64 (d : Int)), (3, .pointer (some ⟨O1, 0, none⟩)), (6, .pointer (some ⟨O5, 0, none⟩)), (8, .bool false)]) (by kernel_rfl) (fun L => ?_)
    refine cw_seq ?_
    refine cw_plain ?_
    refine pl_take (.agg #[.int .i64 (o.p : Int), .int .i64 (o.f : Int), .int .i64 (o.lo : Int), .int .i64 (o.hi : Int), .int .i64 (o.nd : Int), .int .i64 (o.tn : Int), .int .i64 (o.sl : Int)]) rfl (by kernel_rfl) (by kernel_rfl) (by kernel_rfl) (ex_load rfl (by kernel_rfl) (ld24 (bO1_0.1) (bO1_1.1) (bO1_2.1) (bO1_3.1) (bO1_4.1) (bO1_5.1) (bO1_6.1))) ?_
    refine pl_take (.int .i64 (t : Int)) rfl (by kernel_rfl) (by kernel_rfl) (by kernel_rfl) (by kernel_rfl) ?_
    refine pl_take (.int .i64 (d : Int)) rfl (by kernel_rfl) (by kernel_rfl) (by kernel_rfl) (by kernel_rfl) ?_
    refine pl_take (.int .i64 (IntKind.i64.wrap (t - d) : Int)) rfl (by kernel_rfl) (by kernel_rfl) (by kernel_rfl) (by kernel_rfl) ?_
    refine pl_take (.agg #[.int .i64 (o.p : Int), .int .i64 (o.f : Int), .int .i64 (o.lo : Int), .int .i64 (o.hi : Int), .int .i64 (o.nd : Int), .int .i64 (o.tn : Int), .int .i64 (o.sl : Int), .int .i64 (IntKind.i64.wrap (t - d) : Int)]) rfl (by kernel_rfl) (by kernel_rfl) (by kernel_rfl) (by kernel_rfl) ?_
    refine pl_take (.bool false) rfl (by kernel_rfl) (by kernel_rfl) (by kernel_rfl) (by kernel_rfl) ?_
    refine pl_put rfl (by kernel_rfl) (by kernel_rfl) (sn_setK8 (O := O5) (j := 0) (v0 := .int .i64 (o.p : Int)) (v1 := .int .i64 (o.f : Int)) (v2 := .int .i64 (o.lo : Int)) (v3 := .int .i64 (o.hi : Int)) (v4 := .int .i64 (o.nd : Int)) (v5 := .int .i64 (o.tn : Int)) (v6 := .int .i64 (o.sl : Int)) (v7 := .int .i64 (IntKind.i64.wrap (t - d) : Int)) (ex_store (p := .pointer (some ⟨O5, 0, none⟩)) (v := .agg #[.int .i64 (o.p : Int), .int .i64 (o.f : Int), .int .i64 (o.lo : Int), .int .i64 (o.hi : Int), .int .i64 (o.nd : Int), .int .i64 (o.tn : Int), .int .i64 (o.sl : Int), .int .i64 (IntKind.i64.wrap (t - d) : Int)]) rfl (by kernel_rfl) (by kernel_rfl) (st96 bO5_0.1 bO5_0.2 bO5_1.1 bO5_1.2 bO5_2.1 bO5_2.2 bO5_3.1 bO5_3.2 bO5_4.1 bO5_4.2 bO5_5.1 bO5_5.2 bO5_6.1 bO5_6.2 bO5_7.1 bO5_7.2)) bO5_0 bO5_1 bO5_2 bO5_3 bO5_4 bO5_5 bO5_6 bO5_7 ?_)
    intro X32 ho hv0 hv1 hv2 hv3 hv4 hv5 hv6 hv7 hk
    replace hE := ho.ext hE (Nat.le_trans hs3 (Nat.le_of_eq hzO5))
    replace bO1_0 := ho.box (Nat.ne_of_gt (Nat.lt_of_lt_of_le lt4 (Nat.le_of_eq hzO5))) bO1_0
    replace bO1_1 := ho.box (Nat.ne_of_gt (Nat.lt_of_lt_of_le lt4 (Nat.le_of_eq hzO5))) bO1_1
    replace bO1_2 := ho.box (Nat.ne_of_gt (Nat.lt_of_lt_of_le lt4 (Nat.le_of_eq hzO5))) bO1_2
    replace bO1_3 := ho.box (Nat.ne_of_gt (Nat.lt_of_lt_of_le lt4 (Nat.le_of_eq hzO5))) bO1_3
    replace bO1_4 := ho.box (Nat.ne_of_gt (Nat.lt_of_lt_of_le lt4 (Nat.le_of_eq hzO5))) bO1_4
    replace bO1_5 := ho.box (Nat.ne_of_gt (Nat.lt_of_lt_of_le lt4 (Nat.le_of_eq hzO5))) bO1_5
    replace bO1_6 := ho.box (Nat.ne_of_gt (Nat.lt_of_lt_of_le lt4 (Nat.le_of_eq hzO5))) bO1_6
    have hs33 : w30.heap.size ≤ X32.heap.size := Nat.le_of_eq ho.size.symm
    clear ho hk bO5_0 bO5_1 bO5_2 bO5_3 bO5_4 bO5_5 bO5_6 bO5_7
    have bO5_0 := hv0; clear hv0
    have bO5_1 := hv1; clear hv1
    have bO5_2 := hv2; clear hv2
    have bO5_3 := hv3; clear hv3
    have bO5_4 := hv4; clear hv4
    have bO5_5 := hv5; clear hv5
    have bO5_6 := hv6; clear hv6
    have bO5_7 := hv7; clear hv7
    refine pl_take (.bool false) rfl (by kernel_rfl) (by kernel_rfl) (by kernel_rfl) (by kernel_rfl) ?_
    refine pl_nil ?_
    refine qw_then ?_
    refine cw_ret ?_
    refine qw_ret [.agg #[.int .i64 (o.p : Int), .int .i64 (o.f : Int), .int .i64 (o.lo : Int), .int .i64 (o.hi : Int), .int .i64 (o.nd : Int), .int .i64 (o.tn : Int), .int .i64 (o.sl : Int), .int .i64 (IntKind.i64.wrap (t - d) : Int)], .bool false] rfl ⟨⟨_, by kernel_rfl, res_ld (ld96 (bO5_0.1) (bO5_1.1) (bO5_2.1) (bO5_3.1) (bO5_4.1) (bO5_5.1) (bO5_6.1) (bO5_7.1))⟩, (by kernel_rfl), trivial⟩ ?_
    exact ⟨_, rfl, hE⟩
set_option maxRecDepth 1000000 in
set_option maxHeartbeats 4000000 in
theorem At_y (o : Orb) (t d : Int) (w : World) (hat : Orb.atB o t d = true) : Calls Try.prog 28 #[.agg #[.int .i64 o.p, .int .i64 o.f, .int .i64 o.lo, .int .i64 o.hi, .int .i64 o.nd, .int .i64 o.tn, .int .i64 o.sl], .int .i64 t, .int .i64 d] w fun e w' => e = .returned (.tuple #[.agg #[.int .i64 ((Orb.cx o (t - d) : Nat) : Int), .int .i64 ((Orb.cy o (t - d) : Nat) : Int)], .int .i64 0]) ∧ Ext w w' := by
  have ha9 : (Globe.inB t 0 1000000 = true ∧ Globe.inB d (-10) 10 = true) ∧ Orb.ok o = true := by simpa [Orb.atB] using hat
  have h1 := Globe.inB_t.1 ha9.1.1
  have h2 := Globe.inB_t.1 ha9.1.2
  have hok := ha9.2
  refine calls_cw 22 [(2, .int .i64 (d : Int)), (1, .int .i64 (t : Int)), (0, .agg #[.int .i64 (o.p : Int), .int .i64 (o.f : Int), .int .i64 (o.lo : Int), .int .i64 (o.hi : Int), .int .i64 (o.nd : Int), .int .i64 (o.tn : Int), .int .i64 (o.sl : Int)])] Try.func28 rfl Try.ntmps28 (by kernel_rfl) (by kernel_rfl) (fun L => ?_)
  have hE : Ext w w := Ext.refl w
  refine cw_seq ?_
  refine cw_plain ?_
  refine pl_step rfl (by kernel_rfl) (by kernel_rfl) (by kernel_rfl) (sn_new (us := #[.int .i64 (o.p : Int), .int .i64 (o.f : Int), .int .i64 (o.lo : Int), .int .i64 (o.hi : Int), .int .i64 (o.nd : Int), .int .i64 (o.tn : Int), .int .i64 (o.sl : Int)]) (t := 24) (by kernel_rfl) ?_)
  intro O1 X2 hO hOs hb hbx
  have hzO1 := hO; have hyO1 := hOs; clear hO hOs
  have bO1_0 : BoxAt X2 O1 0 (.int .i64 (o.p : Int)) := hbx 0 _ rfl
  have bO1_1 : BoxAt X2 O1 1 (.int .i64 (o.f : Int)) := hbx 1 _ rfl
  have bO1_2 : BoxAt X2 O1 2 (.int .i64 (o.lo : Int)) := hbx 2 _ rfl
  have bO1_3 : BoxAt X2 O1 3 (.int .i64 (o.hi : Int)) := hbx 3 _ rfl
  have bO1_4 : BoxAt X2 O1 4 (.int .i64 (o.nd : Int)) := hbx 4 _ rfl
  have bO1_5 : BoxAt X2 O1 5 (.int .i64 (o.tn : Int)) := hbx 5 _ rfl
  have bO1_6 : BoxAt X2 O1 6 (.int .i64 (o.sl : Int)) := hbx 6 _ rfl
  clear hbx
  replace hE := hE.trans hb
  have hs3 := hb.size
  clear hb
  have lt4 := bO1_0.lt
  refine pl_step rfl (by kernel_rfl) (by kernel_rfl) (by kernel_rfl) (sn_new (us := #[.int .i64 0, .int .i64 0]) (t := 57) (by kernel_rfl) ?_)
  intro O5 X6 hO hOs hb hbx
  have hzO5 := hO; have hyO5 := hOs; clear hO hOs
  have bO5_0 : BoxAt X6 O5 0 (.int .i64 0) := hbx 0 _ rfl
  have bO5_1 : BoxAt X6 O5 1 (.int .i64 0) := hbx 1 _ rfl
  clear hbx
  replace hE := hE.trans hb
  replace bO1_0 := BoxAt.ext hb bO1_0
  replace bO1_1 := BoxAt.ext hb bO1_1
  replace bO1_2 := BoxAt.ext hb bO1_2
  replace bO1_3 := BoxAt.ext hb bO1_3
  replace bO1_4 := BoxAt.ext hb bO1_4
  replace bO1_5 := BoxAt.ext hb bO1_5
  replace bO1_6 := BoxAt.ext hb bO1_6
  have hs7 := hb.size
  clear hb
  have lt8 := bO5_0.lt
  refine pl_take (.int .i64 0) rfl (by kernel_rfl) (by kernel_rfl) (by kernel_rfl) (by kernel_rfl) ?_
  refine pl_nil ?_
  refine qw_then ?_
  refine cw_seq ?_
  refine cw_plain ?_
  refine pl_take (.agg #[.int .i64 (o.p : Int), .int .i64 (o.f : Int), .int .i64 (o.lo : Int), .int .i64 (o.hi : Int), .int .i64 (o.nd : Int), .int .i64 (o.tn : Int), .int .i64 (o.sl : Int)]) rfl (by kernel_rfl) (by kernel_rfl) (by kernel_rfl) (ex_load rfl (by kernel_rfl) (ld24 (bO1_0.1) (bO1_1.1) (bO1_2.1) (bO1_3.1) (bO1_4.1) (bO1_5.1) (bO1_6.1))) ?_
  refine pl_take (.int .i64 (t : Int)) rfl (by kernel_rfl) (by kernel_rfl) (by kernel_rfl) (by kernel_rfl) ?_
  refine pl_take (.int .i64 (d : Int)) rfl (by kernel_rfl) (by kernel_rfl) (by kernel_rfl) (by kernel_rfl) ?_
  refine pl_step rfl (by kernel_rfl) (by kernel_rfl) (by kernel_rfl) (sn_call (f := 63) (args := #[.agg #[.int .i64 (o.p : Int), .int .i64 (o.f : Int), .int .i64 (o.lo : Int), .int .i64 (o.hi : Int), .int .i64 (o.nd : Int), .int .i64 (o.tn : Int), .int .i64 (o.sl : Int)], .int .i64 (t : Int), .int .i64 (d : Int)]) (by kernel_rfl) ((at_y o t d _ (hat)).mono ?_))
  rintro e w9 ⟨rfl, hb⟩
  replace hE := hE.trans hb
  replace bO1_0 := BoxAt.ext hb bO1_0
  replace bO1_1 := BoxAt.ext hb bO1_1
  replace bO1_2 := BoxAt.ext hb bO1_2
  replace bO1_3 := BoxAt.ext hb bO1_3
  replace bO1_4 := BoxAt.ext hb bO1_4
  replace bO1_5 := BoxAt.ext hb bO1_5
  replace bO1_6 := BoxAt.ext hb bO1_6
  replace bO5_0 := BoxAt.ext hb bO5_0
  replace bO5_1 := BoxAt.ext hb bO5_1
  have hs10 := hb.size
  clear hb
  refine ⟨_, rfl, ?_⟩
  refine pl_take (.tuple #[.agg #[.int .i64 (o.p : Int), .int .i64 (o.f : Int), .int .i64 (o.lo : Int), .int .i64 (o.hi : Int), .int .i64 (o.nd : Int), .int .i64 (o.tn : Int), .int .i64 (o.sl : Int), .int .i64 (t - d : Int)], .bool true]) rfl (by kernel_rfl) (by kernel_rfl) (by kernel_rfl) (by kernel_rfl) ?_
  refine pl_take (.agg #[.int .i64 (o.p : Int), .int .i64 (o.f : Int), .int .i64 (o.lo : Int), .int .i64 (o.hi : Int), .int .i64 (o.nd : Int), .int .i64 (o.tn : Int), .int .i64 (o.sl : Int), .int .i64 (t - d : Int)]) rfl (by kernel_rfl) (by kernel_rfl) (by kernel_rfl) (by kernel_rfl) ?_
  refine pl_take (.bool true) rfl (by kernel_rfl) (by kernel_rfl) (by kernel_rfl) (by kernel_rfl) ?_
  refine pl_step rfl (by kernel_rfl) (by kernel_rfl) (by kernel_rfl) (sn_new (us := #[.int .i64 0, .int .i64 0, .int .i64 0, .int .i64 0, .int .i64 0, .int .i64 0, .int .i64 0, .int .i64 0]) (t := 96) (by kernel_rfl) ?_)
  intro O11 X12 hO hOs hb hbx
  have hzO11 := hO; have hyO11 := hOs; clear hO hOs
  have bO11_0 : BoxAt X12 O11 0 (.int .i64 0) := hbx 0 _ rfl
  have bO11_1 : BoxAt X12 O11 1 (.int .i64 0) := hbx 1 _ rfl
  have bO11_2 : BoxAt X12 O11 2 (.int .i64 0) := hbx 2 _ rfl
  have bO11_3 : BoxAt X12 O11 3 (.int .i64 0) := hbx 3 _ rfl
  have bO11_4 : BoxAt X12 O11 4 (.int .i64 0) := hbx 4 _ rfl
  have bO11_5 : BoxAt X12 O11 5 (.int .i64 0) := hbx 5 _ rfl
  have bO11_6 : BoxAt X12 O11 6 (.int .i64 0) := hbx 6 _ rfl
  have bO11_7 : BoxAt X12 O11 7 (.int .i64 0) := hbx 7 _ rfl
  clear hbx
  replace hE := hE.trans hb
  replace bO1_0 := BoxAt.ext hb bO1_0
  replace bO1_1 := BoxAt.ext hb bO1_1
  replace bO1_2 := BoxAt.ext hb bO1_2
  replace bO1_3 := BoxAt.ext hb bO1_3
  replace bO1_4 := BoxAt.ext hb bO1_4
  replace bO1_5 := BoxAt.ext hb bO1_5
  replace bO1_6 := BoxAt.ext hb bO1_6
  replace bO5_0 := BoxAt.ext hb bO5_0
  replace bO5_1 := BoxAt.ext hb bO5_1
  have hs13 := hb.size
  clear hb
  have lt14 := bO11_0.lt
  refine pl_put rfl (by kernel_rfl) (by kernel_rfl) (sn_setK8 (O := O11) (j := 0) (v0 := .int .i64 (o.p : Int)) (v1 := .int .i64 (o.f : Int)) (v2 := .int .i64 (o.lo : Int)) (v3 := .int .i64 (o.hi : Int)) (v4 := .int .i64 (o.nd : Int)) (v5 := .int .i64 (o.tn : Int)) (v6 := .int .i64 (o.sl : Int)) (v7 := .int .i64 (t - d : Int)) (ex_store (p := .pointer (some ⟨O11, 0, none⟩)) (v := .agg #[.int .i64 (o.p : Int), .int .i64 (o.f : Int), .int .i64 (o.lo : Int), .int .i64 (o.hi : Int), .int .i64 (o.nd : Int), .int .i64 (o.tn : Int), .int .i64 (o.sl : Int), .int .i64 (t - d : Int)]) rfl (by kernel_rfl) (by kernel_rfl) (st96 bO11_0.1 bO11_0.2 bO11_1.1 bO11_1.2 bO11_2.1 bO11_2.2 bO11_3.1 bO11_3.2 bO11_4.1 bO11_4.2 bO11_5.1 bO11_5.2 bO11_6.1 bO11_6.2 bO11_7.1 bO11_7.2)) bO11_0 bO11_1 bO11_2 bO11_3 bO11_4 bO11_5 bO11_6 bO11_7 ?_)
  intro X15 ho hv0 hv1 hv2 hv3 hv4 hv5 hv6 hv7 hk
  replace hE := ho.ext hE (Nat.le_trans (Nat.le_trans hs3 (Nat.le_trans hs7 hs10)) (Nat.le_of_eq hzO11))
  replace bO1_0 := ho.box (Nat.ne_of_gt (Nat.lt_of_lt_of_le lt4 (Nat.le_trans (Nat.le_trans hs7 hs10) (Nat.le_of_eq hzO11)))) bO1_0
  replace bO1_1 := ho.box (Nat.ne_of_gt (Nat.lt_of_lt_of_le lt4 (Nat.le_trans (Nat.le_trans hs7 hs10) (Nat.le_of_eq hzO11)))) bO1_1
  replace bO1_2 := ho.box (Nat.ne_of_gt (Nat.lt_of_lt_of_le lt4 (Nat.le_trans (Nat.le_trans hs7 hs10) (Nat.le_of_eq hzO11)))) bO1_2
  replace bO1_3 := ho.box (Nat.ne_of_gt (Nat.lt_of_lt_of_le lt4 (Nat.le_trans (Nat.le_trans hs7 hs10) (Nat.le_of_eq hzO11)))) bO1_3
  replace bO1_4 := ho.box (Nat.ne_of_gt (Nat.lt_of_lt_of_le lt4 (Nat.le_trans (Nat.le_trans hs7 hs10) (Nat.le_of_eq hzO11)))) bO1_4
  replace bO1_5 := ho.box (Nat.ne_of_gt (Nat.lt_of_lt_of_le lt4 (Nat.le_trans (Nat.le_trans hs7 hs10) (Nat.le_of_eq hzO11)))) bO1_5
  replace bO1_6 := ho.box (Nat.ne_of_gt (Nat.lt_of_lt_of_le lt4 (Nat.le_trans (Nat.le_trans hs7 hs10) (Nat.le_of_eq hzO11)))) bO1_6
  replace bO5_0 := ho.box (Nat.ne_of_gt (Nat.lt_of_lt_of_le lt8 (Nat.le_trans hs10 (Nat.le_of_eq hzO11)))) bO5_0
  replace bO5_1 := ho.box (Nat.ne_of_gt (Nat.lt_of_lt_of_le lt8 (Nat.le_trans hs10 (Nat.le_of_eq hzO11)))) bO5_1
  have hs16 : X12.heap.size ≤ X15.heap.size := Nat.le_of_eq ho.size.symm
  clear ho hk bO11_0 bO11_1 bO11_2 bO11_3 bO11_4 bO11_5 bO11_6 bO11_7
  have bO11_0 := hv0; clear hv0
  have bO11_1 := hv1; clear hv1
  have bO11_2 := hv2; clear hv2
  have bO11_3 := hv3; clear hv3
  have bO11_4 := hv4; clear hv4
  have bO11_5 := hv5; clear hv5
  have bO11_6 := hv6; clear hv6
  have bO11_7 := hv7; clear hv7
  refine pl_take (.bool true) rfl (by kernel_rfl) (by kernel_rfl) (by kernel_rfl) (by kernel_rfl) ?_
  refine pl_nil ?_
  refine qw_then ?_
  refine cw_clean [6, 8, 9] (ws' := [(6, .pointer (some ⟨O5, 0, none⟩)), (8, .pointer (some ⟨O11, 0, none⟩)), (9, .bool true)]) (by kernel_rfl) (fun L => ?_)
  refine cw_seq ?_
  refine cw_seq ?_
  refine cw_plain ?_
  refine pl_take (.bool true) rfl (by kernel_rfl) (by kernel_rfl) (by kernel_rfl) (by kernel_rfl) ?_
  refine pl_take (.bool false) rfl (by kernel_rfl) (by kernel_rfl) (by kernel_rfl) (by kernel_rfl) ?_
  refine pl_nil ?_
  refine qw_then ?_
  refine cw_f (by kernel_rfl) ?_
  refine cw_skip ?_
  refine qw_then ?_
  refine cw_seq ?_
  refine cw_plain ?_
  refine pl_take (.agg #[.int .i64 (o.p : Int), .int .i64 (o.f : Int), .int .i64 (o.lo : Int), .int .i64 (o.hi : Int), .int .i64 (o.nd : Int), .int .i64 (o.tn : Int), .int .i64 (o.sl : Int), .int .i64 (t - d : Int)]) rfl (by kernel_rfl) (by kernel_rfl) (by kernel_rfl) (ex_load rfl (by kernel_rfl) (ld96 (bO11_0.1) (bO11_1.1) (bO11_2.1) (bO11_3.1) (bO11_4.1) (bO11_5.1) (bO11_6.1) (bO11_7.1))) ?_
  refine pl_step rfl (by kernel_rfl) (by kernel_rfl) (by kernel_rfl) (sn_call (f := 64) (args := #[.agg #[.int .i64 (o.p : Int), .int .i64 (o.f : Int), .int .i64 (o.lo : Int), .int .i64 (o.hi : Int), .int .i64 (o.nd : Int), .int .i64 (o.tn : Int), .int .i64 (o.sl : Int), .int .i64 (t - d : Int)]]) (by kernel_rfl) ((cell_c o (t - d) _ hok (by omega) (by omega)).mono ?_))
  rintro e w17 ⟨rfl, hb⟩
  replace hE := hE.trans hb
  replace bO1_0 := BoxAt.ext hb bO1_0
  replace bO1_1 := BoxAt.ext hb bO1_1
  replace bO1_2 := BoxAt.ext hb bO1_2
  replace bO1_3 := BoxAt.ext hb bO1_3
  replace bO1_4 := BoxAt.ext hb bO1_4
  replace bO1_5 := BoxAt.ext hb bO1_5
  replace bO1_6 := BoxAt.ext hb bO1_6
  replace bO5_0 := BoxAt.ext hb bO5_0
  replace bO5_1 := BoxAt.ext hb bO5_1
  replace bO11_0 := BoxAt.ext hb bO11_0
  replace bO11_1 := BoxAt.ext hb bO11_1
  replace bO11_2 := BoxAt.ext hb bO11_2
  replace bO11_3 := BoxAt.ext hb bO11_3
  replace bO11_4 := BoxAt.ext hb bO11_4
  replace bO11_5 := BoxAt.ext hb bO11_5
  replace bO11_6 := BoxAt.ext hb bO11_6
  replace bO11_7 := BoxAt.ext hb bO11_7
  have hs18 := hb.size
  clear hb
  refine ⟨_, rfl, ?_⟩
  refine pl_put rfl (by kernel_rfl) (by kernel_rfl) (sn_set2 (O := O5) (j := 0) (v := .int .i64 (((Orb.cx o (t - d) : Nat) : Int) : Int)) (v' := .int .i64 (((Orb.cy o (t - d) : Nat) : Int) : Int)) (ex_store (p := .pointer (some ⟨O5, 0, none⟩)) (v := .agg #[.int .i64 (((Orb.cx o (t - d) : Nat) : Int) : Int), .int .i64 (((Orb.cy o (t - d) : Nat) : Int) : Int)]) rfl (by kernel_rfl) (by kernel_rfl) (st57 bO5_0.1 bO5_0.2 bO5_1.1 bO5_1.2)) bO5_0 bO5_1 ?_)
  intro X19 ho hv0 hv1 hk
  replace hE := ho.ext hE (Nat.le_trans hs3 (Nat.le_of_eq hzO5))
  replace bO1_0 := ho.box (Nat.ne_of_gt (Nat.lt_of_lt_of_le lt4 (Nat.le_of_eq hzO5))) bO1_0
  replace bO1_1 := ho.box (Nat.ne_of_gt (Nat.lt_of_lt_of_le lt4 (Nat.le_of_eq hzO5))) bO1_1
  replace bO1_2 := ho.box (Nat.ne_of_gt (Nat.lt_of_lt_of_le lt4 (Nat.le_of_eq hzO5))) bO1_2
  replace bO1_3 := ho.box (Nat.ne_of_gt (Nat.lt_of_lt_of_le lt4 (Nat.le_of_eq hzO5))) bO1_3
  replace bO1_4 := ho.box (Nat.ne_of_gt (Nat.lt_of_lt_of_le lt4 (Nat.le_of_eq hzO5))) bO1_4
  replace bO1_5 := ho.box (Nat.ne_of_gt (Nat.lt_of_lt_of_le lt4 (Nat.le_of_eq hzO5))) bO1_5
  replace bO1_6 := ho.box (Nat.ne_of_gt (Nat.lt_of_lt_of_le lt4 (Nat.le_of_eq hzO5))) bO1_6
  replace bO11_0 := ho.box (Nat.ne_of_lt (Nat.lt_of_lt_of_le lt8 (Nat.le_trans hs10 (Nat.le_of_eq hzO11)))) bO11_0
  replace bO11_1 := ho.box (Nat.ne_of_lt (Nat.lt_of_lt_of_le lt8 (Nat.le_trans hs10 (Nat.le_of_eq hzO11)))) bO11_1
  replace bO11_2 := ho.box (Nat.ne_of_lt (Nat.lt_of_lt_of_le lt8 (Nat.le_trans hs10 (Nat.le_of_eq hzO11)))) bO11_2
  replace bO11_3 := ho.box (Nat.ne_of_lt (Nat.lt_of_lt_of_le lt8 (Nat.le_trans hs10 (Nat.le_of_eq hzO11)))) bO11_3
  replace bO11_4 := ho.box (Nat.ne_of_lt (Nat.lt_of_lt_of_le lt8 (Nat.le_trans hs10 (Nat.le_of_eq hzO11)))) bO11_4
  replace bO11_5 := ho.box (Nat.ne_of_lt (Nat.lt_of_lt_of_le lt8 (Nat.le_trans hs10 (Nat.le_of_eq hzO11)))) bO11_5
  replace bO11_6 := ho.box (Nat.ne_of_lt (Nat.lt_of_lt_of_le lt8 (Nat.le_trans hs10 (Nat.le_of_eq hzO11)))) bO11_6
  replace bO11_7 := ho.box (Nat.ne_of_lt (Nat.lt_of_lt_of_le lt8 (Nat.le_trans hs10 (Nat.le_of_eq hzO11)))) bO11_7
  have hs20 : w17.heap.size ≤ X19.heap.size := Nat.le_of_eq ho.size.symm
  clear ho hk bO5_0 bO5_1
  have bO5_0 := hv0; clear hv0
  have bO5_1 := hv1; clear hv1
  refine pl_take (.int .i64 0) rfl (by kernel_rfl) (by kernel_rfl) (by kernel_rfl) (by kernel_rfl) ?_
  refine pl_nil ?_
  refine qw_then ?_
  refine cw_ret ?_
  refine qw_ret [.agg #[.int .i64 (((Orb.cx o (t - d) : Nat) : Int) : Int), .int .i64 (((Orb.cy o (t - d) : Nat) : Int) : Int)], .int .i64 0] rfl ⟨⟨_, by kernel_rfl, res_ld (ld57 (bO5_0.1) (bO5_1.1))⟩, (by kernel_rfl), trivial⟩ ?_
  exact ⟨rfl, hE⟩
set_option maxRecDepth 1000000 in
set_option maxHeartbeats 4000000 in
theorem At_n (o : Orb) (t d : Int) (w : World) (hat : Orb.atB o t d = false) : Calls Try.prog 28 #[.agg #[.int .i64 o.p, .int .i64 o.f, .int .i64 o.lo, .int .i64 o.hi, .int .i64 o.nd, .int .i64 o.tn, .int .i64 o.sl], .int .i64 t, .int .i64 d] w fun e w' => e = .returned (.tuple #[.agg #[.int .i64 0, .int .i64 0], .int .i64 70]) ∧ Ext w w' := by
  refine calls_cw 22 [(2, .int .i64 (d : Int)), (1, .int .i64 (t : Int)), (0, .agg #[.int .i64 (o.p : Int), .int .i64 (o.f : Int), .int .i64 (o.lo : Int), .int .i64 (o.hi : Int), .int .i64 (o.nd : Int), .int .i64 (o.tn : Int), .int .i64 (o.sl : Int)])] Try.func28 rfl Try.ntmps28 (by kernel_rfl) (by kernel_rfl) (fun L => ?_)
  have hE : Ext w w := Ext.refl w
  refine cw_seq ?_
  refine cw_plain ?_
  refine pl_step rfl (by kernel_rfl) (by kernel_rfl) (by kernel_rfl) (sn_new (us := #[.int .i64 (o.p : Int), .int .i64 (o.f : Int), .int .i64 (o.lo : Int), .int .i64 (o.hi : Int), .int .i64 (o.nd : Int), .int .i64 (o.tn : Int), .int .i64 (o.sl : Int)]) (t := 24) (by kernel_rfl) ?_)
  intro O1 X2 hO hOs hb hbx
  have hzO1 := hO; have hyO1 := hOs; clear hO hOs
  have bO1_0 : BoxAt X2 O1 0 (.int .i64 (o.p : Int)) := hbx 0 _ rfl
  have bO1_1 : BoxAt X2 O1 1 (.int .i64 (o.f : Int)) := hbx 1 _ rfl
  have bO1_2 : BoxAt X2 O1 2 (.int .i64 (o.lo : Int)) := hbx 2 _ rfl
  have bO1_3 : BoxAt X2 O1 3 (.int .i64 (o.hi : Int)) := hbx 3 _ rfl
  have bO1_4 : BoxAt X2 O1 4 (.int .i64 (o.nd : Int)) := hbx 4 _ rfl
  have bO1_5 : BoxAt X2 O1 5 (.int .i64 (o.tn : Int)) := hbx 5 _ rfl
  have bO1_6 : BoxAt X2 O1 6 (.int .i64 (o.sl : Int)) := hbx 6 _ rfl
  clear hbx
  replace hE := hE.trans hb
  have hs3 := hb.size
  clear hb
  have lt4 := bO1_0.lt
  refine pl_step rfl (by kernel_rfl) (by kernel_rfl) (by kernel_rfl) (sn_new (us := #[.int .i64 0, .int .i64 0]) (t := 57) (by kernel_rfl) ?_)
  intro O5 X6 hO hOs hb hbx
  have hzO5 := hO; have hyO5 := hOs; clear hO hOs
  have bO5_0 : BoxAt X6 O5 0 (.int .i64 0) := hbx 0 _ rfl
  have bO5_1 : BoxAt X6 O5 1 (.int .i64 0) := hbx 1 _ rfl
  clear hbx
  replace hE := hE.trans hb
  replace bO1_0 := BoxAt.ext hb bO1_0
  replace bO1_1 := BoxAt.ext hb bO1_1
  replace bO1_2 := BoxAt.ext hb bO1_2
  replace bO1_3 := BoxAt.ext hb bO1_3
  replace bO1_4 := BoxAt.ext hb bO1_4
  replace bO1_5 := BoxAt.ext hb bO1_5
  replace bO1_6 := BoxAt.ext hb bO1_6
  have hs7 := hb.size
  clear hb
  have lt8 := bO5_0.lt
  refine pl_take (.int .i64 0) rfl (by kernel_rfl) (by kernel_rfl) (by kernel_rfl) (by kernel_rfl) ?_
  refine pl_nil ?_
  refine qw_then ?_
  refine cw_seq ?_
  refine cw_plain ?_
  refine pl_take (.agg #[.int .i64 (o.p : Int), .int .i64 (o.f : Int), .int .i64 (o.lo : Int), .int .i64 (o.hi : Int), .int .i64 (o.nd : Int), .int .i64 (o.tn : Int), .int .i64 (o.sl : Int)]) rfl (by kernel_rfl) (by kernel_rfl) (by kernel_rfl) (ex_load rfl (by kernel_rfl) (ld24 (bO1_0.1) (bO1_1.1) (bO1_2.1) (bO1_3.1) (bO1_4.1) (bO1_5.1) (bO1_6.1))) ?_
  refine pl_take (.int .i64 (t : Int)) rfl (by kernel_rfl) (by kernel_rfl) (by kernel_rfl) (by kernel_rfl) ?_
  refine pl_take (.int .i64 (d : Int)) rfl (by kernel_rfl) (by kernel_rfl) (by kernel_rfl) (by kernel_rfl) ?_
  refine pl_step rfl (by kernel_rfl) (by kernel_rfl) (by kernel_rfl) (sn_call (f := 63) (args := #[.agg #[.int .i64 (o.p : Int), .int .i64 (o.f : Int), .int .i64 (o.lo : Int), .int .i64 (o.hi : Int), .int .i64 (o.nd : Int), .int .i64 (o.tn : Int), .int .i64 (o.sl : Int)], .int .i64 (t : Int), .int .i64 (d : Int)]) (by kernel_rfl) ((at_n o t d _ (hat)).mono ?_))
  rintro e w10 ⟨m9, rfl, hb⟩
  replace hE := hE.trans hb
  replace bO1_0 := BoxAt.ext hb bO1_0
  replace bO1_1 := BoxAt.ext hb bO1_1
  replace bO1_2 := BoxAt.ext hb bO1_2
  replace bO1_3 := BoxAt.ext hb bO1_3
  replace bO1_4 := BoxAt.ext hb bO1_4
  replace bO1_5 := BoxAt.ext hb bO1_5
  replace bO1_6 := BoxAt.ext hb bO1_6
  replace bO5_0 := BoxAt.ext hb bO5_0
  replace bO5_1 := BoxAt.ext hb bO5_1
  have hs11 := hb.size
  clear hb
  refine ⟨_, rfl, ?_⟩
  refine pl_take (.tuple #[.agg #[.int .i64 (o.p : Int), .int .i64 (o.f : Int), .int .i64 (o.lo : Int), .int .i64 (o.hi : Int), .int .i64 (o.nd : Int), .int .i64 (o.tn : Int), .int .i64 (o.sl : Int), .int .i64 (m9 : Int)], .bool false]) rfl (by kernel_rfl) (by kernel_rfl) (by kernel_rfl) (by kernel_rfl) ?_
  refine pl_take (.agg #[.int .i64 (o.p : Int), .int .i64 (o.f : Int), .int .i64 (o.lo : Int), .int .i64 (o.hi : Int), .int .i64 (o.nd : Int), .int .i64 (o.tn : Int), .int .i64 (o.sl : Int), .int .i64 (m9 : Int)]) rfl (by kernel_rfl) (by kernel_rfl) (by kernel_rfl) (by kernel_rfl) ?_
  refine pl_take (.bool false) rfl (by kernel_rfl) (by kernel_rfl) (by kernel_rfl) (by kernel_rfl) ?_
  refine pl_step rfl (by kernel_rfl) (by kernel_rfl) (by kernel_rfl) (sn_new (us := #[.int .i64 0, .int .i64 0, .int .i64 0, .int .i64 0, .int .i64 0, .int .i64 0, .int .i64 0, .int .i64 0]) (t := 96) (by kernel_rfl) ?_)
  intro O12 X13 hO hOs hb hbx
  have hzO12 := hO; have hyO12 := hOs; clear hO hOs
  have bO12_0 : BoxAt X13 O12 0 (.int .i64 0) := hbx 0 _ rfl
  have bO12_1 : BoxAt X13 O12 1 (.int .i64 0) := hbx 1 _ rfl
  have bO12_2 : BoxAt X13 O12 2 (.int .i64 0) := hbx 2 _ rfl
  have bO12_3 : BoxAt X13 O12 3 (.int .i64 0) := hbx 3 _ rfl
  have bO12_4 : BoxAt X13 O12 4 (.int .i64 0) := hbx 4 _ rfl
  have bO12_5 : BoxAt X13 O12 5 (.int .i64 0) := hbx 5 _ rfl
  have bO12_6 : BoxAt X13 O12 6 (.int .i64 0) := hbx 6 _ rfl
  have bO12_7 : BoxAt X13 O12 7 (.int .i64 0) := hbx 7 _ rfl
  clear hbx
  replace hE := hE.trans hb
  replace bO1_0 := BoxAt.ext hb bO1_0
  replace bO1_1 := BoxAt.ext hb bO1_1
  replace bO1_2 := BoxAt.ext hb bO1_2
  replace bO1_3 := BoxAt.ext hb bO1_3
  replace bO1_4 := BoxAt.ext hb bO1_4
  replace bO1_5 := BoxAt.ext hb bO1_5
  replace bO1_6 := BoxAt.ext hb bO1_6
  replace bO5_0 := BoxAt.ext hb bO5_0
  replace bO5_1 := BoxAt.ext hb bO5_1
  have hs14 := hb.size
  clear hb
  have lt15 := bO12_0.lt
  refine pl_put rfl (by kernel_rfl) (by kernel_rfl) (sn_setK8 (O := O12) (j := 0) (v0 := .int .i64 (o.p : Int)) (v1 := .int .i64 (o.f : Int)) (v2 := .int .i64 (o.lo : Int)) (v3 := .int .i64 (o.hi : Int)) (v4 := .int .i64 (o.nd : Int)) (v5 := .int .i64 (o.tn : Int)) (v6 := .int .i64 (o.sl : Int)) (v7 := .int .i64 (m9 : Int)) (ex_store (p := .pointer (some ⟨O12, 0, none⟩)) (v := .agg #[.int .i64 (o.p : Int), .int .i64 (o.f : Int), .int .i64 (o.lo : Int), .int .i64 (o.hi : Int), .int .i64 (o.nd : Int), .int .i64 (o.tn : Int), .int .i64 (o.sl : Int), .int .i64 (m9 : Int)]) rfl (by kernel_rfl) (by kernel_rfl) (st96 bO12_0.1 bO12_0.2 bO12_1.1 bO12_1.2 bO12_2.1 bO12_2.2 bO12_3.1 bO12_3.2 bO12_4.1 bO12_4.2 bO12_5.1 bO12_5.2 bO12_6.1 bO12_6.2 bO12_7.1 bO12_7.2)) bO12_0 bO12_1 bO12_2 bO12_3 bO12_4 bO12_5 bO12_6 bO12_7 ?_)
  intro X16 ho hv0 hv1 hv2 hv3 hv4 hv5 hv6 hv7 hk
  replace hE := ho.ext hE (Nat.le_trans (Nat.le_trans hs3 (Nat.le_trans hs7 hs11)) (Nat.le_of_eq hzO12))
  replace bO1_0 := ho.box (Nat.ne_of_gt (Nat.lt_of_lt_of_le lt4 (Nat.le_trans (Nat.le_trans hs7 hs11) (Nat.le_of_eq hzO12)))) bO1_0
  replace bO1_1 := ho.box (Nat.ne_of_gt (Nat.lt_of_lt_of_le lt4 (Nat.le_trans (Nat.le_trans hs7 hs11) (Nat.le_of_eq hzO12)))) bO1_1
  replace bO1_2 := ho.box (Nat.ne_of_gt (Nat.lt_of_lt_of_le lt4 (Nat.le_trans (Nat.le_trans hs7 hs11) (Nat.le_of_eq hzO12)))) bO1_2
  replace bO1_3 := ho.box (Nat.ne_of_gt (Nat.lt_of_lt_of_le lt4 (Nat.le_trans (Nat.le_trans hs7 hs11) (Nat.le_of_eq hzO12)))) bO1_3
  replace bO1_4 := ho.box (Nat.ne_of_gt (Nat.lt_of_lt_of_le lt4 (Nat.le_trans (Nat.le_trans hs7 hs11) (Nat.le_of_eq hzO12)))) bO1_4
  replace bO1_5 := ho.box (Nat.ne_of_gt (Nat.lt_of_lt_of_le lt4 (Nat.le_trans (Nat.le_trans hs7 hs11) (Nat.le_of_eq hzO12)))) bO1_5
  replace bO1_6 := ho.box (Nat.ne_of_gt (Nat.lt_of_lt_of_le lt4 (Nat.le_trans (Nat.le_trans hs7 hs11) (Nat.le_of_eq hzO12)))) bO1_6
  replace bO5_0 := ho.box (Nat.ne_of_gt (Nat.lt_of_lt_of_le lt8 (Nat.le_trans hs11 (Nat.le_of_eq hzO12)))) bO5_0
  replace bO5_1 := ho.box (Nat.ne_of_gt (Nat.lt_of_lt_of_le lt8 (Nat.le_trans hs11 (Nat.le_of_eq hzO12)))) bO5_1
  have hs17 : X13.heap.size ≤ X16.heap.size := Nat.le_of_eq ho.size.symm
  clear ho hk bO12_0 bO12_1 bO12_2 bO12_3 bO12_4 bO12_5 bO12_6 bO12_7
  have bO12_0 := hv0; clear hv0
  have bO12_1 := hv1; clear hv1
  have bO12_2 := hv2; clear hv2
  have bO12_3 := hv3; clear hv3
  have bO12_4 := hv4; clear hv4
  have bO12_5 := hv5; clear hv5
  have bO12_6 := hv6; clear hv6
  have bO12_7 := hv7; clear hv7
  refine pl_take (.bool false) rfl (by kernel_rfl) (by kernel_rfl) (by kernel_rfl) (by kernel_rfl) ?_
  refine pl_nil ?_
  refine qw_then ?_
  refine cw_clean [6, 8, 9] (ws' := [(6, .pointer (some ⟨O5, 0, none⟩)), (8, .pointer (some ⟨O12, 0, none⟩)), (9, .bool false)]) (by kernel_rfl) (fun L => ?_)
  refine cw_seq ?_
  refine cw_seq ?_
  refine cw_plain ?_
  refine pl_take (.bool false) rfl (by kernel_rfl) (by kernel_rfl) (by kernel_rfl) (by kernel_rfl) ?_
  refine pl_take (.bool true) rfl (by kernel_rfl) (by kernel_rfl) (by kernel_rfl) (by kernel_rfl) ?_
  refine pl_nil ?_
  refine qw_then ?_
  refine cw_t (by kernel_rfl) ?_
  refine cw_seq ?_
  refine cw_plain ?_
  refine pl_take (.agg #[.int .i64 0, .int .i64 0]) rfl (by kernel_rfl) (by kernel_rfl) (by kernel_rfl) (by kernel_rfl) ?_
  refine pl_put rfl (by kernel_rfl) (by kernel_rfl) (sn_set2 (O := O5) (j := 0) (v := .int .i64 0) (v' := .int .i64 0) (ex_store (p := .pointer (some ⟨O5, 0, none⟩)) (v := .agg #[.int .i64 0, .int .i64 0]) rfl (by kernel_rfl) (by kernel_rfl) (st57 bO5_0.1 bO5_0.2 bO5_1.1 bO5_1.2)) bO5_0 bO5_1 ?_)
  intro X18 ho hv0 hv1 hk
  replace hE := ho.ext hE (Nat.le_trans hs3 (Nat.le_of_eq hzO5))
  replace bO1_0 := ho.box (Nat.ne_of_gt (Nat.lt_of_lt_of_le lt4 (Nat.le_of_eq hzO5))) bO1_0
  replace bO1_1 := ho.box (Nat.ne_of_gt (Nat.lt_of_lt_of_le lt4 (Nat.le_of_eq hzO5))) bO1_1
  replace bO1_2 := ho.box (Nat.ne_of_gt (Nat.lt_of_lt_of_le lt4 (Nat.le_of_eq hzO5))) bO1_2
  replace bO1_3 := ho.box (Nat.ne_of_gt (Nat.lt_of_lt_of_le lt4 (Nat.le_of_eq hzO5))) bO1_3
  replace bO1_4 := ho.box (Nat.ne_of_gt (Nat.lt_of_lt_of_le lt4 (Nat.le_of_eq hzO5))) bO1_4
  replace bO1_5 := ho.box (Nat.ne_of_gt (Nat.lt_of_lt_of_le lt4 (Nat.le_of_eq hzO5))) bO1_5
  replace bO1_6 := ho.box (Nat.ne_of_gt (Nat.lt_of_lt_of_le lt4 (Nat.le_of_eq hzO5))) bO1_6
  replace bO12_0 := ho.box (Nat.ne_of_lt (Nat.lt_of_lt_of_le lt8 (Nat.le_trans hs11 (Nat.le_of_eq hzO12)))) bO12_0
  replace bO12_1 := ho.box (Nat.ne_of_lt (Nat.lt_of_lt_of_le lt8 (Nat.le_trans hs11 (Nat.le_of_eq hzO12)))) bO12_1
  replace bO12_2 := ho.box (Nat.ne_of_lt (Nat.lt_of_lt_of_le lt8 (Nat.le_trans hs11 (Nat.le_of_eq hzO12)))) bO12_2
  replace bO12_3 := ho.box (Nat.ne_of_lt (Nat.lt_of_lt_of_le lt8 (Nat.le_trans hs11 (Nat.le_of_eq hzO12)))) bO12_3
  replace bO12_4 := ho.box (Nat.ne_of_lt (Nat.lt_of_lt_of_le lt8 (Nat.le_trans hs11 (Nat.le_of_eq hzO12)))) bO12_4
  replace bO12_5 := ho.box (Nat.ne_of_lt (Nat.lt_of_lt_of_le lt8 (Nat.le_trans hs11 (Nat.le_of_eq hzO12)))) bO12_5
  replace bO12_6 := ho.box (Nat.ne_of_lt (Nat.lt_of_lt_of_le lt8 (Nat.le_trans hs11 (Nat.le_of_eq hzO12)))) bO12_6
  replace bO12_7 := ho.box (Nat.ne_of_lt (Nat.lt_of_lt_of_le lt8 (Nat.le_trans hs11 (Nat.le_of_eq hzO12)))) bO12_7
  have hs19 : X16.heap.size ≤ X18.heap.size := Nat.le_of_eq ho.size.symm
  clear ho hk bO5_0 bO5_1
  have bO5_0 := hv0; clear hv0
  have bO5_1 := hv1; clear hv1
  refine pl_take (.int .i64 70) rfl (by kernel_rfl) (by kernel_rfl) (by kernel_rfl) (by kernel_rfl) ?_
  refine pl_nil ?_
  refine qw_then ?_
  refine cw_ret ?_
  refine qw_then_ret ?_
  refine qw_ret [.agg #[.int .i64 0, .int .i64 0], .int .i64 70] rfl ⟨⟨_, by kernel_rfl, res_ld (ld57 (bO5_0.1) (bO5_1.1))⟩, (by kernel_rfl), trivial⟩ ?_
  exact ⟨rfl, hE⟩

end Go.Proofs.Ytdjjkhefdalokaa

/- How many cells an area has; distances of cells. Plain mathematics. -/
namespace Go.Proofs.Ytdjjkhefdalokaa
namespace Globe

def allCells (n : Nat) : List (Nat × Nat) := (List.range n).flatMap fun y => (List.range 48).map fun x => (x, y)
theorem cellsTo_filter (l : List Int) (n : Nat) : cellsTo l n = (allCells n).filter fun p => hasL l p.1 p.2 := by
  unfold cellsTo allCells
  rw [List.filter_flatMap]
  congr 1
  funext y
  unfold rowCells bitsN
  rw [List.filter_map]
  rfl
theorem mem_all {n : Nat} {p : Nat × Nat} : p ∈ allCells n ↔ p.1 < 48 ∧ p.2 < n := by
  obtain ⟨x, y⟩ := p
  simp only [allCells, List.mem_flatMap, List.mem_range, List.mem_map, Prod.mk.injEq]
  constructor
  · rintro ⟨y', hy, x', hx, rfl, rfl⟩; exact ⟨hx, hy⟩
  · rintro ⟨hx, hy⟩; exact ⟨y, hy, x, hx, rfl, rfl⟩
theorem count_eq (l : List Int) (n : Nat) : (cellsTo l n).length = (allCells n).countP fun p => hasL l p.1 p.2 := by
  rw [cellsTo_filter, List.countP_eq_length_filter]
theorem countP_incl {α : Type} (p q : α → Bool) (l : List α) : (l.countP fun a => p a || q a) + (l.countP fun a => p a && q a) = l.countP p + l.countP q := by
  induction l with
  | nil => rfl
  | cons a l ih =>
    simp only [List.countP_cons]
    cases p a <;> cases q a <;> simp <;> omega
theorem countP_diff {α : Type} (p q : α → Bool) (l : List α) : (l.countP fun a => p a && !q a) + (l.countP fun a => p a && q a) = l.countP p := by
  induction l with
  | nil => rfl
  | cons a l ih =>
    simp only [List.countP_cons]
    cases p a <;> cases q a <;> simp <;> omega
theorem countP_congr' {α : Type} {p q : α → Bool} {l : List α} (h : ∀ a ∈ l, p a = q a) : l.countP p = l.countP q := by
  rw [List.countP_eq_length_filter, List.countP_eq_length_filter, List.filter_congr h]
theorem count_congr {a : List Int} {q : Nat × Nat → Bool} (h : ∀ x y, x < 48 → y < 24 → hasL a x y = q (x, y)) : (cellsTo a 24).length = (allCells 24).countP q := by
  rw [count_eq]
  exact countP_congr' fun p hp => h p.1 p.2 (mem_all.1 hp).1 (mem_all.1 hp).2
theorem count_union (a b : List Int) : (cellsTo (unionL a b) 24).length + (cellsTo (meetL a b) 24).length = (cellsTo a 24).length + (cellsTo b 24).length := by
  rw [count_congr (a := unionL a b) (q := fun p => hasL a p.1 p.2 || hasL b p.1 p.2) fun x y _ hy => has_union hy,
    count_congr (a := meetL a b) (q := fun p => hasL a p.1 p.2 && hasL b p.1 p.2) fun x y _ hy => has_meet hy, countP_incl, count_eq, count_eq]
theorem count_less (a b : List Int) : (cellsTo (lessL a b) 24).length + (cellsTo (meetL a b) 24).length = (cellsTo a 24).length := by
  rw [count_congr (a := lessL a b) (q := fun p => hasL a p.1 p.2 && !hasL b p.1 p.2) fun x y _ hy => has_less hy,
    count_congr (a := meetL a b) (q := fun p => hasL a p.1 p.2 && hasL b p.1 p.2) fun x y _ hy => has_meet hy, countP_diff, count_eq]

/-- The empty area. -/
theorem count_zero_iff {l : List Int} (h : validL l = true) : (cellsTo l 24).length = 0 ↔ l = zeroL := by
  constructor
  · intro e
    have e' : cellsTo l 24 = [] := List.length_eq_zero_iff.1 e
    refine ext_has h valid_zero fun x y hx hy => ?_
    rw [has_zero]
    cases hh : hasL l x y
    · rfl
    · have := (mem_cells (n := 24) (p := (x, y))).2 ⟨hy, hx, hh⟩
      rw [e'] at this
      cases this
  · rintro rfl
    rw [count_eq]
    rw [List.countP_eq_zero]
    intro p _
    rw [has_zero]; simp

/-- Whether an area has all cells of another one. -/
def containsB (a b : List Int) : Bool := validL a && validL b && decide (lessL b a = zeroL)
theorem contains_iff {a b : List Int} (ha : validL a = true) (hb : validL b = true) : containsB a b = true ↔ ∀ x y, x < 48 → y < 24 → hasL b x y = true → hasL a x y = true := by
  unfold containsB
  rw [ha, hb]
  simp only [Bool.true_and, decide_eq_true_eq]
  constructor
  · intro e x y hx hy h
    have := has_less (a := b) (b := a) (x := x) hy
    rw [e, has_zero, h] at this
    simpa using this
  · intro h
    refine ext_has (less_valid hb) valid_zero fun x y hx hy => ?_
    rw [has_zero, has_less hy]
    cases hh : hasL b x y
    · rfl
    · rw [h x y hx hy hh]; rfl
theorem contains_count {a b : List Int} (ha : validL a = true) (hb : validL b = true) : containsB a b = decide ((cellsTo (meetL a b) 24).length = (cellsTo b 24).length) := by
  have h1 := count_less b a
  have h2 : (cellsTo (meetL b a) 24).length = (cellsTo (meetL a b) 24).length := by
    rw [count_congr (a := meetL b a) (q := fun p => hasL a p.1 p.2 && hasL b p.1 p.2) fun x y _ hy => by rw [has_meet hy, Bool.and_comm],
      count_congr (a := meetL a b) (q := fun p => hasL a p.1 p.2 && hasL b p.1 p.2) fun x y _ hy => has_meet hy]
  have h3 := count_zero_iff (less_valid (b := a) hb)
  unfold containsB
  rw [ha, hb, Bool.true_and, Bool.true_and, Bool.eq_iff_iff, decide_eq_true_eq, decide_eq_true_eq, ← h3]
  omega

/-! Shifting keeps the number of cells. -/
theorem rot_map {k : Nat} (hk : k < 48) : (List.range 48).map (fun x => (x + 48 - k) % 48) = (List.range k).map (48 - k + ·) ++ List.range (48 - k) := by
  have e : List.range 48 = List.range k ++ (List.range (48 - k)).map (k + ·) := by rw [← List.range_add]; congr 1; omega
  rw [e, List.map_append, List.map_map]
  congr 1
  · exact List.map_congr_left fun x hx => by have := List.mem_range.1 hx; omega
  · conv => rhs; rw [← List.map_id (List.range (48 - k))]
    exact List.map_congr_left fun x hx => by have := List.mem_range.1 hx; simp only [Function.comp, id]; omega
theorem countP_rot (q : Nat → Bool) {k : Nat} (hk : k < 48) : ((List.range 48).countP fun x => q ((x + 48 - k) % 48)) = (List.range 48).countP q := by
  have e1 : ((List.range 48).countP fun x => q ((x + 48 - k) % 48)) = ((List.range 48).map (fun x => (x + 48 - k) % 48)).countP q := by rw [List.countP_map]; rfl
  have e2 : List.range 48 = List.range (48 - k) ++ (List.range k).map (48 - k + ·) := by rw [← List.range_add]; congr 1; omega
  rw [e1, rot_map hk]
  conv => rhs; rw [e2]
  rw [List.countP_append, List.countP_append]
  omega
theorem countP_all (q : Nat × Nat → Bool) : ∀ n, (allCells n).countP q = ((List.range n).map fun y => (List.range 48).countP fun x => q (x, y)).sum
  | 0 => rfl
  | n + 1 => by
    have := countP_all q n
    unfold allCells at this ⊢
    rw [List.range_succ (n := n), List.flatMap_append, List.countP_append, this, List.map_append, List.sum_append]
    simp [List.countP_map, Function.comp_def]
theorem count_shift {l : List Int} (hl : validL l = true) {k : Nat} (hk : k < 48) : (cellsTo (shiftL l k) 24).length = (cellsTo l 24).length := by
  rw [count_congr (a := shiftL l k) (q := fun p => hasL l ((p.1 + 48 - k) % 48) p.2) fun x y hx hy => has_shift hl hk hx hy, count_eq, countP_all, countP_all]
  congr 1
  exact List.map_congr_left fun y _ => countP_rot (fun x => hasL l x y) hk

/-- How many numbers below n are less than w. -/
theorem countP_lt (w : Nat) : ∀ n, ((List.range n).countP fun x => decide (x < w)) = min w n
  | 0 => by simp
  | n + 1 => by
    rw [List.range_succ, List.countP_append, countP_lt w n]
    by_cases h : n < w
    · simp [h]; omega
    · simp [h]; omega
theorem sum_from (c w : Nat) : ∀ (n cy h : Nat), cy + h ≤ n → ((List.range n).map fun y => if cy ≤ y ∧ y < cy + h then w else 0).sum = w * h
  | 0, cy, h, e => by
    obtain rfl : h = 0 := by omega
    simp
  | n + 1, cy, h, e => by
    rw [List.range_succ, List.map_append, List.sum_append]
    by_cases e2 : cy + h ≤ n
    · rw [sum_from c w n cy h e2]
      simp only [List.map_cons, List.map_nil, List.sum_cons, List.sum_nil]
      rw [if_neg (by omega)]; omega
    · cases h with
      | zero =>
        have : ∀ y, (if cy ≤ y ∧ y < cy + 0 then w else 0) = 0 := fun y => if_neg (by omega)
        simp only [this]
        have z : ∀ m : Nat, ((List.range m).map fun _ => 0).sum = 0 := fun m => by induction m with
          | zero => rfl
          | succ m ih => rw [List.range_succ, List.map_append, List.sum_append, ih]; rfl
        rw [z]; simp
      | succ h =>
        have e3 : cy + h = n := by omega
        have e4 : ((List.range n).map fun y => if cy ≤ y ∧ y < cy + (h + 1) then w else 0) = ((List.range n).map fun y => if cy ≤ y ∧ y < cy + h then w else 0) :=
          List.map_congr_left fun y hy => by
            have := List.mem_range.1 hy
            by_cases c : cy ≤ y
            · rw [if_pos ⟨c, by omega⟩, if_pos ⟨c, by omega⟩]
            · rw [if_neg (by omega), if_neg (by omega)]
        rw [e4, sum_from c w n cy h (by omega)]
        simp only [List.map_cons, List.map_nil, List.sum_cons, List.sum_nil]
        rw [if_pos (by omega), Nat.mul_succ]; omega
theorem count_box {cx cy wide high : Nat} (hc : cx < 48) (hw : wide ≤ 48) (hh : cy + high ≤ 24) : (cellsTo (boxL cx cy wide high) 24).length = wide * high := by
  rw [count_congr (a := boxL cx cy wide high) (q := fun p => decide (cy ≤ p.2 ∧ p.2 < cy + high) && decide ((p.1 + 48 - cx) % 48 < wide)) fun x y hx hy => has_box hc hw hx hy, countP_all]
  rw [← sum_from 0 wide 24 cy high hh]
  congr 1
  refine List.map_congr_left fun y _ => ?_
  dsimp only
  by_cases e : cy ≤ y ∧ y < cy + high
  · rw [if_pos e]
    have := countP_rot (fun x => decide (x < wide)) hc
    rw [countP_lt] at this
    rw [Nat.min_eq_left hw] at this
    rw [show (fun p => decide (cy ≤ y ∧ y < cy + high) && decide ((p + 48 - cx) % 48 < wide)) = fun p => decide ((p + 48 - cx) % 48 < wide) from funext fun p => by simp [e]]
    exact this
  · rw [if_neg e, List.countP_eq_zero]
    intro x _
    simp only [Bool.and_eq_true, decide_eq_true_eq]
    exact fun h => e h.1

end Globe
end Go.Proofs.Ytdjjkhefdalokaa

/- What an exposure shows. -/
namespace Go.Proofs.Ytdjjkhefdalokaa
namespace Globe
theorem ext24 {a b : List Int} (h1 : a.length = 24) (h2 : b.length = 24) (h : ∀ y, y < 24 → nth a y = nth b y) : a = b :=
  List.ext_getElem (by omega) fun y k1 k2 => by
    have := h y (by omega)
    rwa [nth_lt k1, nth_lt k2] at this
theorem rowsF_id {L : List Int} (h : validL L = true) : rowsF (fun y => rowN L y) = L :=
  ext24 (rowsF_len _) (len_of_valid h) fun y hy => by rw [nth_rowsF _ hy, ← rowN_cast h]
/-- Two areas, combined in the first i rows. -/
def mixL (f : Nat → Nat → Nat) (L M : List Int) (i : Nat) : List Int := rowsF fun y => if y < i then f (rowN L y) (rowN M y) else rowN L y
theorem mix_0 {f : Nat → Nat → Nat} {L M : List Int} (h : validL L = true) : mixL f L M 0 = L := by
  unfold mixL
  simp only [Nat.not_lt_zero, if_false]
  exact rowsF_id h
theorem mix_len (f : Nat → Nat → Nat) (L M : List Int) (i : Nat) : (mixL f L M i).length = 24 := rowsF_len _
theorem mix_nth (f : Nat → Nat → Nat) (L M : List Int) (i : Nat) {y : Nat} (hy : y < 24) : nth (mixL f L M i) y = (((if y < i then f (rowN L y) (rowN M y) else rowN L y) : Nat) : Int) := nth_rowsF _ hy
theorem mix_24 (f : Nat → Nat → Nat) (L M : List Int) : mixL f L M 24 = rowsF fun y => f (rowN L y) (rowN M y) :=
  ext24 (mix_len _ _ _ _) (rowsF_len _) fun y hy => by rw [mix_nth _ _ _ _ hy, nth_rowsF _ hy, if_pos hy]
theorem mix_row {f : Nat → Nat → Nat} {L M : List Int} {i : Nat} (hi : i < 24) : rowN (mixL f L M i) i = rowN L i := by
  show (nth (mixL f L M i) i).toNat = rowN L i
  rw [mix_nth _ _ _ _ hi, if_neg (Nat.lt_irrefl i), Int.toNat_natCast]
theorem mix_succ {f : Nat → Nat → Nat} {L M : List Int} {i : Nat} (hi : i < 24) : (mixL f L M i).set i ((f (rowN (mixL f L M i) i) (rowN M i) : Nat) : Int) = mixL f L M (i + 1) := by
  rw [mix_row hi]
  refine ext24 (by rw [List.length_set, mix_len]) (mix_len _ _ _ _) fun y hy => ?_
  rw [nth_set _ (by rw [mix_len]; exact hi), mix_nth _ _ _ _ hy]
  rw [mix_nth _ _ _ _ hy]
  by_cases e : i = y
  · subst e; rw [if_pos rfl, if_pos (by omega)]
  · rw [if_neg e]
    by_cases h : y < i
    · rw [if_pos h, if_pos (by omega)]
    · rw [if_neg h, if_neg (by omega)]
theorem mix_valid {f : Nat → Nat → Nat} (hf : ∀ p q, p < 281474976710656 → q < 281474976710656 → f p q < 281474976710656) {L M : List Int} (hL : validL L = true) (hM : validL M = true) (i : Nat) : validL (mixL f L M i) = true :=
  rowsF_valid fun y _ => by
    by_cases h : y < i
    · rw [if_pos h]; exact hf _ _ (rowN_lt hL y) (rowN_lt hM y)
    · rw [if_neg h]; exact rowN_lt hL y
def and8 (p q : Nat) : Nat := p &&& q
def or8 (p q : Nat) : Nat := p ||| q
theorem and8_lt (p q : Nat) (h : p < 281474976710656) (_ : q < 281474976710656) : and8 p q < 281474976710656 := Nat.lt_of_le_of_lt Nat.and_le_left h
theorem or8_lt (p q : Nat) (h : p < 281474976710656) (k : q < 281474976710656) : or8 p q < 281474976710656 := Nat.or_lt_two_pow (n := 48) h k
end Globe
namespace Swath
open Globe
def spB (s : Int × Int) (most : Int) : Bool := decide (0 ≤ s.1) && decide (s.1 < s.2) && decide (s.2 ≤ 1000001) && decide (s.2 - s.1 ≤ most)
theorem spB_t {s : Int × Int} {most : Int} : spB s most = true ↔ 0 ≤ s.1 ∧ s.1 < s.2 ∧ s.2 ≤ 1000001 ∧ s.2 - s.1 ≤ most := by
  unfold spB; simp [and_assoc]
/-- Is an exposure valid? -/
def shB (o : Orb) (s : Int × Int) (l : Int) : Bool := Orb.ok o && spB s 60 && inB l (-4) 4
theorem shB_t {o : Orb} {s : Int × Int} {l : Int} : shB o s l = true ↔ Orb.ok o = true ∧ (0 ≤ s.1 ∧ s.1 < s.2 ∧ s.2 ≤ 1000001 ∧ s.2 - s.1 ≤ 60) ∧ -4 ≤ l ∧ l ≤ 4 := by
  unfold shB; simp only [Bool.and_eq_true, spB_t, inB_t, and_assoc]
/-- The column that is shown. -/
def sx (o : Orb) (l u : Int) : Nat := (((Orb.cx o u : Int) + l + 48) % 48).toNat
theorem sx_lt (o : Orb) (l u : Int) : sx o l u < 48 := by unfold sx; omega
theorem sx_z (o : Orb) (l u : Int) : ((Orb.cx o u : Int) + l + 48) % 48 = (sx o l u : Int) := by unfold sx; omega
/-- What is shown from u on, for n minutes. -/
def showL (o : Orb) (l u : Int) : Nat → List Int
  | 0 => zeroL
  | n + 1 => putL (showL o l u n) (sx o l (u + n)) (Orb.cy o (u + n))
theorem show_valid {o : Orb} (h : Orb.ok o = true) (l u : Int) : ∀ n, validL (showL o l u n) = true
  | 0 => show validL zeroL = true by decide
  | n + 1 => valid_put (show_valid h l u n) (sx_lt _ _ _)
/-- What all of the first areas have; what one of them has. -/
def foldM (A : Nat → List Int) : Nat → List Int
  | 0 => zeroL
  | 1 => A 0
  | k + 2 => meetL (foldM A (k + 1)) (A (k + 1))
def foldU (A : Nat → List Int) : Nat → List Int
  | 0 => zeroL
  | 1 => A 0
  | k + 2 => unionL (foldU A (k + 1)) (A (k + 1))
theorem foldM_succ {A : Nat → List Int} {i : Nat} (h : 0 < i) : foldM A (i + 1) = meetL (foldM A i) (A i) := by
  obtain ⟨k, rfl⟩ : ∃ k, i = k + 1 := ⟨i - 1, by omega⟩
  rfl
theorem foldU_succ {A : Nat → List Int} {i : Nat} (h : 0 < i) : foldU A (i + 1) = unionL (foldU A i) (A i) := by
  obtain ⟨k, rfl⟩ : ∃ k, i = k + 1 := ⟨i - 1, by omega⟩
  rfl
theorem foldM_valid {A : Nat → List Int} (h : ∀ i, validL (A i) = true) : ∀ i, validL (foldM A i) = true
  | 0 => show validL zeroL = true by decide
  | 1 => h 0
  | k + 2 => meet_valid (foldM_valid h (k + 1))
theorem foldU_valid {A : Nat → List Int} (h : ∀ i, validL (A i) = true) : ∀ i, validL (foldU A i) = true
  | 0 => show validL zeroL = true by decide
  | 1 => h 0
  | k + 2 => union_valid (foldU_valid h (k + 1)) (h (k + 1))
/-- What is shown with the j-th delay. -/
def areaJ (o : Orb) (s : Int × Int) (lk : Int) (j : Nat) : List Int := showL o lk (s.1 - (-o.sl + ((j : Nat) : Int))) (s.2 - s.1).toNat
theorem areaJ_valid {o : Orb} (h : Orb.ok o = true) (s : Int × Int) (lk : Int) (j : Nat) : validL (areaJ o s lk j) = true := show_valid h _ _ _
def lates (o : Orb) : Nat := (2 * o.sl + 1).toNat
def sureL (o : Orb) (s : Int × Int) (lk : Int) : List Int := foldM (areaJ o s lk) (lates o)
def canL (o : Orb) (s : Int × Int) (lk : Int) : List Int := foldU (areaJ o s lk) (lates o)
theorem sure_valid {o : Orb} (h : Orb.ok o = true) (s : Int × Int) (lk : Int) : validL (sureL o s lk) = true := foldM_valid (areaJ_valid h s lk) _
theorem can_valid {o : Orb} (h : Orb.ok o = true) (s : Int × Int) (lk : Int) : validL (canL o s lk) = true := foldU_valid (areaJ_valid h s lk) _
def showsB (o : Orb) (s : Int × Int) (lk : Int) (l : List Int) : Bool := shB o s lk && containsB (sureL o s lk) l
end Swath
end Go.Proofs.Ytdjjkhefdalokaa
