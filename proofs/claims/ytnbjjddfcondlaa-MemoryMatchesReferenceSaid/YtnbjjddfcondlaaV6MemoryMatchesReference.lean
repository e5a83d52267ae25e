/- Part 6 of what the proof of MemoryMatchesReference stands on. -/
import Derived.Test.YtnbjjddfcondlaaV5MemoryMatchesReference
/- Contracts of the reference of chapter 11: can, Freed, Worst. -/
namespace Go.Proofs.Ytnbjjddfcondlaa
open Go.RowKit

set_option maxRecDepth 1000000 in
set_option maxHeartbeats 4000000 in
theorem rcan_c {w0 : World} {a : Option Addr} {n : Nat} {o : Mem.Opt} (c : Nat) (w : World) (h : SlsAt w0 a n o.sl) (e0 : Ext w0 w) : Calls Try.prog 50 #[.agg #[.int .i64 o.id, .int .i64 o.od, .int .i64 o.cl, .int .i64 o.sa, .int .i64 o.fr, .int .i64 o.to, .int .i64 o.lk, .int .i64 o.sz, .slice a n c]] w fun e w' => e = .returned (.bool (Mem.canB o)) ∧ Ext w w' := by
  have hln := h.1; have hmx := h.2.1
  have hs0 := e0.size
  obtain ⟨bs, os, ha, hbl, hx⟩ := h.parts
  refine calls_cw 76 [(0, .agg #[.int .i64 (o.id : Int), .int .i64 (o.od : Int), .int .i64 (o.cl : Int), .int .i64 (o.sa : Int), .int .i64 (o.fr : Int), .int .i64 (o.to : Int), .int .i64 (o.lk : Int), .int .i64 (o.sz : Int), .slice a n c])] Try.func50 rfl Try.ntmps50 (by kernel_rfl) (by kernel_rfl) (fun L => ?_)
  have hE : Ext w w := Ext.refl w
  refine cw_seq ?_
  refine cw_plain ?_
  refine pl_step rfl (by kernel_rfl) (by kernel_rfl) (by kernel_rfl) (sn_new (us := #[.int .i64 (o.id : Int), .int .i64 (o.od : Int), .int .i64 (o.cl : Int), .int .i64 (o.sa : Int), .int .i64 (o.fr : Int), .int .i64 (o.to : Int), .int .i64 (o.lk : Int), .int .i64 (o.sz : Int), .slice a n c]) (t := 31) (by kernel_rfl) ?_)
  intro O5 X6 hO hOs hb hbx
  have hzO5 := hO; have hyO5 := hOs; clear hO hOs
  have bO5_0 : BoxAt X6 O5 0 (.int .i64 (o.id : Int)) := hbx 0 _ rfl
  have bO5_1 : BoxAt X6 O5 1 (.int .i64 (o.od : Int)) := hbx 1 _ rfl
  have bO5_2 : BoxAt X6 O5 2 (.int .i64 (o.cl : Int)) := hbx 2 _ rfl
  have bO5_3 : BoxAt X6 O5 3 (.int .i64 (o.sa : Int)) := hbx 3 _ rfl
  have bO5_4 : BoxAt X6 O5 4 (.int .i64 (o.fr : Int)) := hbx 4 _ rfl
  have bO5_5 : BoxAt X6 O5 5 (.int .i64 (o.to : Int)) := hbx 5 _ rfl
  have bO5_6 : BoxAt X6 O5 6 (.int .i64 (o.lk : Int)) := hbx 6 _ rfl
  have bO5_7 : BoxAt X6 O5 7 (.int .i64 (o.sz : Int)) := hbx 7 _ rfl
  have bO5_8 : BoxAt X6 O5 8 (.slice a n c) := hbx 8 _ rfl
  clear hbx
  replace e0 := e0.trans hb
  replace hE := hE.trans hb
  have hs7 := hb.size
  clear hb
  have lt8 := bO5_0.lt
  refine pT (.bool false) ?_
  refine pl_nil ?_
  refine qw_then ?_
  refine cw_seq ?_
  refine cw_seq ?_
  refine cw_plain ?_
  refine pT (.pointer (some ⟨O5, 0, none⟩)) ?_
  refine pl_take (.int .i64 (o.id : Int)) rfl (by kernel_rfl) (by kernel_rfl) (by kernel_rfl) (ex_load rfl (by kernel_rfl) (ld3 (bO5_0.1))) ?_
  by_cases hc9 : (o.id : Int) < (0 : Int)
  ·
    refine pl_take (.bool true) rfl (by kernel_rfl) (by kernel_rfl) (by kernel_rfl) (ev_dec (show _ = Result.ok (Next.value (Value.bool (decide ((o.id : Int) < (0 : Int))))) _ from by kernel_rfl) (hc9)) ?_
    refine pT (.bool true) ?_
    refine pl_skip rfl (by kernel_rfl) (by kernel_rfl) (by kernel_rfl) ?_
    refine pl_skip rfl (by kernel_rfl) (by kernel_rfl) (by kernel_rfl) ?_
    refine pl_skip rfl (by kernel_rfl) (by kernel_rfl) (by kernel_rfl) ?_
    refine pT (.bool true) ?_
    refine pT (.bool true) ?_
    refine pl_skip rfl (by kernel_rfl) (by kernel_rfl) (by kernel_rfl) ?_
    refine pl_skip rfl (by kernel_rfl) (by kernel_rfl) (by kernel_rfl) ?_
    refine pl_skip rfl (by kernel_rfl) (by kernel_rfl) (by kernel_rfl) ?_
    refine pT (.bool true) ?_
    refine pT (.bool true) ?_
    refine pl_skip rfl (by kernel_rfl) (by kernel_rfl) (by kernel_rfl) ?_
    refine pl_skip rfl (by kernel_rfl) (by kernel_rfl) (by kernel_rfl) ?_
    refine pl_skip rfl (by kernel_rfl) (by kernel_rfl) (by kernel_rfl) ?_
    refine pT (.bool true) ?_
    refine pT (.bool true) ?_
    refine pl_skip rfl (by kernel_rfl) (by kernel_rfl) (by kernel_rfl) ?_
    refine pl_skip rfl (by kernel_rfl) (by kernel_rfl) (by kernel_rfl) ?_
    refine pl_skip rfl (by kernel_rfl) (by kernel_rfl) (by kernel_rfl) ?_
    refine pl_skip rfl (by kernel_rfl) (by kernel_rfl) (by kernel_rfl) ?_
    refine pT (.bool true) ?_
    refine pT (.bool true) ?_
    refine pl_skip rfl (by kernel_rfl) (by kernel_rfl) (by kernel_rfl) ?_
    refine pl_skip rfl (by kernel_rfl) (by kernel_rfl) (by kernel_rfl) ?_
    refine pl_skip rfl (by kernel_rfl) (by kernel_rfl) (by kernel_rfl) ?_
    refine pl_skip rfl (by kernel_rfl) (by kernel_rfl) (by kernel_rfl) ?_
    refine pT (.bool true) ?_
    refine pT (.bool true) ?_
    refine pl_skip rfl (by kernel_rfl) (by kernel_rfl) (by kernel_rfl) ?_
    refine pl_skip rfl (by kernel_rfl) (by kernel_rfl) (by kernel_rfl) ?_
    refine pl_skip rfl (by kernel_rfl) (by kernel_rfl) (by kernel_rfl) ?_
    refine pl_skip rfl (by kernel_rfl) (by kernel_rfl) (by kernel_rfl) ?_
    refine pT (.bool true) ?_
    refine pl_nil ?_
    refine qw_then ?_
    refine cw_clean [1, 41] (ws' := [(1, .pointer (some ⟨O5, 0, none⟩)), (41, .bool true)]) (by kernel_rfl) (fun L => ?_)
    refine cw_t (by kernel_rfl) ?_
    refine cw_seq ?_
    refine cw_plain ?_
    refine pT (.bool false) ?_
    refine pl_nil ?_
    refine qw_then ?_
    refine cw_ret ?_
    refine qw_then_ret ?_
    refine qw_ret [.bool false] rfl ⟨(by kernel_rfl), trivial⟩ ?_
    exact ⟨congrArg (fun b => Ending.returned (Value.bool b)) (show Mem.canB o = false from Bool.eq_false_iff.2 fun hz => by have hz := (Mem.can_parts hz).2; omega).symm, hE⟩
  ·
    refine pl_take (.bool false) rfl (by kernel_rfl) (by kernel_rfl) (by kernel_rfl) (ev_ndec (show _ = Result.ok (Next.value (Value.bool (decide ((o.id : Int) < (0 : Int))))) _ from by kernel_rfl) (hc9)) ?_
    refine pT (.bool false) ?_
    refine pT (.pointer (some ⟨O5, 0, none⟩)) ?_
    refine pl_take (.int .i64 (o.id : Int)) rfl (by kernel_rfl) (by kernel_rfl) (by kernel_rfl) (ex_load rfl (by kernel_rfl) (ld3 (bO5_0.1))) ?_
    by_cases hc10 : (o.id : Int) > (63 : Int)
    ·
      refine pl_take (.bool true) rfl (by kernel_rfl) (by kernel_rfl) (by kernel_rfl) (ev_dec (show _ = Result.ok (Next.value (Value.bool (decide ((o.id : Int) > (63 : Int))))) _ from by kernel_rfl) (hc10)) ?_
      refine pT (.bool true) ?_
      refine pT (.bool true) ?_
      refine pl_skip rfl (by kernel_rfl) (by kernel_rfl) (by kernel_rfl) ?_
      refine pl_skip rfl (by kernel_rfl) (by kernel_rfl) (by kernel_rfl) ?_
      refine pl_skip rfl (by kernel_rfl) (by kernel_rfl) (by kernel_rfl) ?_
      refine pT (.bool true) ?_
      refine pT (.bool true) ?_
      refine pl_skip rfl (by kernel_rfl) (by kernel_rfl) (by kernel_rfl) ?_
      refine pl_skip rfl (by kernel_rfl) (by kernel_rfl) (by kernel_rfl) ?_
      refine pl_skip rfl (by kernel_rfl) (by kernel_rfl) (by kernel_rfl) ?_
      refine pT (.bool true) ?_
      refine pT (.bool true) ?_
      refine pl_skip rfl (by kernel_rfl) (by kernel_rfl) (by kernel_rfl) ?_
      refine pl_skip rfl (by kernel_rfl) (by kernel_rfl) (by kernel_rfl) ?_
      refine pl_skip rfl (by kernel_rfl) (by kernel_rfl) (by kernel_rfl) ?_
      refine pl_skip rfl (by kernel_rfl) (by kernel_rfl) (by kernel_rfl) ?_
      refine pT (.bool true) ?_
      refine pT (.bool true) ?_
      refine pl_skip rfl (by kernel_rfl) (by kernel_rfl) (by kernel_rfl) ?_
      refine pl_skip rfl (by kernel_rfl) (by kernel_rfl) (by kernel_rfl) ?_
      refine pl_skip rfl (by kernel_rfl) (by kernel_rfl) (by kernel_rfl) ?_
      refine pl_skip rfl (by kernel_rfl) (by kernel_rfl) (by kernel_rfl) ?_
      refine pT (.bool true) ?_
      refine pT (.bool true) ?_
      refine pl_skip rfl (by kernel_rfl) (by kernel_rfl) (by kernel_rfl) ?_
      refine pl_skip rfl (by kernel_rfl) (by kernel_rfl) (by kernel_rfl) ?_
      refine pl_skip rfl (by kernel_rfl) (by kernel_rfl) (by kernel_rfl) ?_
      refine pl_skip rfl (by kernel_rfl) (by kernel_rfl) (by kernel_rfl) ?_
      refine pT (.bool true) ?_
      refine pl_nil ?_
      refine qw_then ?_
      refine cw_clean [1, 41] (ws' := [(1, .pointer (some ⟨O5, 0, none⟩)), (41, .bool true)]) (by kernel_rfl) (fun L => ?_)
      refine cw_t (by kernel_rfl) ?_
      refine cw_seq ?_
      refine cw_plain ?_
      refine pT (.bool false) ?_
      refine pl_nil ?_
      refine qw_then ?_
      refine cw_ret ?_
      refine qw_then_ret ?_
      refine qw_ret [.bool false] rfl ⟨(by kernel_rfl), trivial⟩ ?_
      exact ⟨congrArg (fun b => Ending.returned (Value.bool b)) (show Mem.canB o = false from Bool.eq_false_iff.2 fun hz => by have hz := (Mem.can_parts hz).2; omega).symm, hE⟩
    ·
      refine pl_take (.bool false) rfl (by kernel_rfl) (by kernel_rfl) (by kernel_rfl) (ev_ndec (show _ = Result.ok (Next.value (Value.bool (decide ((o.id : Int) > (63 : Int))))) _ from by kernel_rfl) (hc10)) ?_
      refine pT (.bool false) ?_
      refine pT (.bool false) ?_
      refine pT (.pointer (some ⟨O5, 7, none⟩)) ?_
      refine pl_take (.int .i64 (o.sz : Int)) rfl (by kernel_rfl) (by kernel_rfl) (by kernel_rfl) (ex_load rfl (by kernel_rfl) (ld3 (bO5_7.1))) ?_
      by_cases hc11 : (o.sz : Int) < (1 : Int)
      ·
        refine pl_take (.bool true) rfl (by kernel_rfl) (by kernel_rfl) (by kernel_rfl) (ev_dec (show _ = Result.ok (Next.value (Value.bool (decide ((o.sz : Int) < (1 : Int))))) _ from by kernel_rfl) (hc11)) ?_
        refine pT (.bool true) ?_
        refine pT (.bool true) ?_
        refine pl_skip rfl (by kernel_rfl) (by kernel_rfl) (by kernel_rfl) ?_
        refine pl_skip rfl (by kernel_rfl) (by kernel_rfl) (by kernel_rfl) ?_
        refine pl_skip rfl (by kernel_rfl) (by kernel_rfl) (by kernel_rfl) ?_
        refine pT (.bool true) ?_
        refine pT (.bool true) ?_
        refine pl_skip rfl (by kernel_rfl) (by kernel_rfl) (by kernel_rfl) ?_
        refine pl_skip rfl (by kernel_rfl) (by kernel_rfl) (by kernel_rfl) ?_
        refine pl_skip rfl (by kernel_rfl) (by kernel_rfl) (by kernel_rfl) ?_
        refine pl_skip rfl (by kernel_rfl) (by kernel_rfl) (by kernel_rfl) ?_
        refine pT (.bool true) ?_
        refine pT (.bool true) ?_
        refine pl_skip rfl (by kernel_rfl) (by kernel_rfl) (by kernel_rfl) ?_
        refine pl_skip rfl (by kernel_rfl) (by kernel_rfl) (by kernel_rfl) ?_
        refine pl_skip rfl (by kernel_rfl) (by kernel_rfl) (by kernel_rfl) ?_
        refine pl_skip rfl (by kernel_rfl) (by kernel_rfl) (by kernel_rfl) ?_
        refine pT (.bool true) ?_
        refine pT (.bool true) ?_
        refine pl_skip rfl (by kernel_rfl) (by kernel_rfl) (by kernel_rfl) ?_
        refine pl_skip rfl (by kernel_rfl) (by kernel_rfl) (by kernel_rfl) ?_
        refine pl_skip rfl (by kernel_rfl) (by kernel_rfl) (by kernel_rfl) ?_
        refine pl_skip rfl (by kernel_rfl) (by kernel_rfl) (by kernel_rfl) ?_
        refine pT (.bool true) ?_
        refine pl_nil ?_
        refine qw_then ?_
        refine cw_clean [1, 41] (ws' := [(1, .pointer (some ⟨O5, 0, none⟩)), (41, .bool true)]) (by kernel_rfl) (fun L => ?_)
        refine cw_t (by kernel_rfl) ?_
        refine cw_seq ?_
        refine cw_plain ?_
        refine pT (.bool false) ?_
        refine pl_nil ?_
        refine qw_then ?_
        refine cw_ret ?_
        refine qw_then_ret ?_
        refine qw_ret [.bool false] rfl ⟨(by kernel_rfl), trivial⟩ ?_
        exact ⟨congrArg (fun b => Ending.returned (Value.bool b)) (show Mem.canB o = false from Bool.eq_false_iff.2 fun hz => by have hz := (Mem.can_parts hz).2; omega).symm, hE⟩
      ·
        refine pl_take (.bool false) rfl (by kernel_rfl) (by kernel_rfl) (by kernel_rfl) (ev_ndec (show _ = Result.ok (Next.value (Value.bool (decide ((o.sz : Int) < (1 : Int))))) _ from by kernel_rfl) (hc11)) ?_
        refine pT (.bool false) ?_
        refine pT (.bool false) ?_
        refine pT (.pointer (some ⟨O5, 7, none⟩)) ?_
        refine pl_take (.int .i64 (o.sz : Int)) rfl (by kernel_rfl) (by kernel_rfl) (by kernel_rfl) (ex_load rfl (by kernel_rfl) (ld3 (bO5_7.1))) ?_
        by_cases hc12 : (o.sz : Int) > (1000000 : Int)
        ·
          refine pl_take (.bool true) rfl (by kernel_rfl) (by kernel_rfl) (by kernel_rfl) (ev_dec (show _ = Result.ok (Next.value (Value.bool (decide ((o.sz : Int) > (1000000 : Int))))) _ from by kernel_rfl) (hc12)) ?_
          refine pT (.bool true) ?_
          refine pT (.bool true) ?_
          refine pl_skip rfl (by kernel_rfl) (by kernel_rfl) (by kernel_rfl) ?_
          refine pl_skip rfl (by kernel_rfl) (by kernel_rfl) (by kernel_rfl) ?_
          refine pl_skip rfl (by kernel_rfl) (by kernel_rfl) (by kernel_rfl) ?_
          refine pl_skip rfl (by kernel_rfl) (by kernel_rfl) (by kernel_rfl) ?_
          refine pT (.bool true) ?_
          refine pT (.bool true) ?_
          refine pl_skip rfl (by kernel_rfl) (by kernel_rfl) (by kernel_rfl) ?_
          refine pl_skip rfl (by kernel_rfl) (by kernel_rfl) (by kernel_rfl) ?_
          refine pl_skip rfl (by kernel_rfl) (by kernel_rfl) (by kernel_rfl) ?_
          refine pl_skip rfl (by kernel_rfl) (by kernel_rfl) (by kernel_rfl) ?_
          refine pT (.bool true) ?_
          refine pT (.bool true) ?_
          refine pl_skip rfl (by kernel_rfl) (by kernel_rfl) (by kernel_rfl) ?_
          refine pl_skip rfl (by kernel_rfl) (by kernel_rfl) (by kernel_rfl) ?_
          refine pl_skip rfl (by kernel_rfl) (by kernel_rfl) (by kernel_rfl) ?_
          refine pl_skip rfl (by kernel_rfl) (by kernel_rfl) (by kernel_rfl) ?_
          refine pT (.bool true) ?_
          refine pl_nil ?_
          refine qw_then ?_
          refine cw_clean [1, 41] (ws' := [(1, .pointer (some ⟨O5, 0, none⟩)), (41, .bool true)]) (by kernel_rfl) (fun L => ?_)
          refine cw_t (by kernel_rfl) ?_
          refine cw_seq ?_
          refine cw_plain ?_
          refine pT (.bool false) ?_
          refine pl_nil ?_
          refine qw_then ?_
          refine cw_ret ?_
          refine qw_then_ret ?_
          refine qw_ret [.bool false] rfl ⟨(by kernel_rfl), trivial⟩ ?_
          exact ⟨congrArg (fun b => Ending.returned (Value.bool b)) (show Mem.canB o = false from Bool.eq_false_iff.2 fun hz => by have hz := (Mem.can_parts hz).2; omega).symm, hE⟩
        ·
          refine pl_take (.bool false) rfl (by kernel_rfl) (by kernel_rfl) (by kernel_rfl) (ev_ndec (show _ = Result.ok (Next.value (Value.bool (decide ((o.sz : Int) > (1000000 : Int))))) _ from by kernel_rfl) (hc12)) ?_
          refine pT (.bool false) ?_
          refine pT (.bool false) ?_
          refine pT (.pointer (some ⟨O5, 4, none⟩)) ?_
          refine pl_take (.agg #[.int .i64 (o.fr : Int), .int .i64 (o.to : Int)]) rfl (by kernel_rfl) (by kernel_rfl) (by kernel_rfl) (ex_load rfl (by kernel_rfl) (ld24 (bO5_4.1) (bO5_5.1))) ?_
          rcases Bool.eq_false_or_eq_true (Mem.spB (o.fr, o.to)) with hb13 | hb13
          ·
            have hq14 := Mem.spB_t.1 hb13; simp only [] at hq14
            refine pl_step rfl (by kernel_rfl) (by kernel_rfl) (by kernel_rfl) (sn_call (f := 48) (args := #[.agg #[.int .i64 (o.fr : Int), .int .i64 (o.to : Int)]]) (by kernel_rfl) ((proper_r (r := true) o.fr o.to _ (hb13)).mono ?_))
            rintro e w15 ⟨rfl, hb⟩
            replace e0 := e0.trans hb
            replace hE := hE.trans hb
            replace bO5_0 := BoxAt.ext hb bO5_0
            replace bO5_1 := BoxAt.ext hb bO5_1
            replace bO5_2 := BoxAt.ext hb bO5_2
            replace bO5_3 := BoxAt.ext hb bO5_3
            replace bO5_4 := BoxAt.ext hb bO5_4
            replace bO5_5 := BoxAt.ext hb bO5_5
            replace bO5_6 := BoxAt.ext hb bO5_6
            replace bO5_7 := BoxAt.ext hb bO5_7
            replace bO5_8 := BoxAt.ext hb bO5_8
            have hs16 := hb.size
            clear hb
            refine ⟨_, rfl, ?_⟩
            refine pT (.bool false) ?_
            refine pT (.bool false) ?_
            refine pT (.bool false) ?_
            refine pT (.pointer (some ⟨O5, 8, none⟩)) ?_
            refine pl_take (.slice a n c) rfl (by kernel_rfl) (by kernel_rfl) (by kernel_rfl) (ex_load rfl (by kernel_rfl) (ld29 (bO5_8.1))) ?_
            refine pT (.int .i64 (((n : Nat) : Int) : Int)) ?_
            by_cases hc17 : (((n : Nat) : Int) : Int) < (1 : Int)
            ·
              refine pl_take (.bool true) rfl (by kernel_rfl) (by kernel_rfl) (by kernel_rfl) (ev_dec (show _ = Result.ok (Next.value (Value.bool (decide ((((n : Nat) : Int) : Int) < (1 : Int))))) _ from by kernel_rfl) (hc17)) ?_
              refine pT (.bool true) ?_
              refine pT (.bool true) ?_
              refine pl_skip rfl (by kernel_rfl) (by kernel_rfl) (by kernel_rfl) ?_
              refine pl_skip rfl (by kernel_rfl) (by kernel_rfl) (by kernel_rfl) ?_
              refine pl_skip rfl (by kernel_rfl) (by kernel_rfl) (by kernel_rfl) ?_
              refine pl_skip rfl (by kernel_rfl) (by kernel_rfl) (by kernel_rfl) ?_
              refine pT (.bool true) ?_
              refine pl_nil ?_
              refine qw_then ?_
              refine cw_clean [1, 41] (ws' := [(1, .pointer (some ⟨O5, 0, none⟩)), (41, .bool true)]) (by kernel_rfl) (fun L => ?_)
              refine cw_t (by kernel_rfl) ?_
              refine cw_seq ?_
              refine cw_plain ?_
              refine pT (.bool false) ?_
              refine pl_nil ?_
              refine qw_then ?_
              refine cw_ret ?_
              refine qw_then_ret ?_
              refine qw_ret [.bool false] rfl ⟨(by kernel_rfl), trivial⟩ ?_
              exact ⟨congrArg (fun b => Ending.returned (Value.bool b)) (show Mem.canB o = false from Bool.eq_false_iff.2 fun hz => by have hz := (Mem.can_parts hz).2; omega).symm, hE⟩
            ·
              refine pl_take (.bool false) rfl (by kernel_rfl) (by kernel_rfl) (by kernel_rfl) (ev_ndec (show _ = Result.ok (Next.value (Value.bool (decide ((((n : Nat) : Int) : Int) < (1 : Int))))) _ from by kernel_rfl) (hc17)) ?_
              refine pT (.bool false) ?_
              refine pT (.bool false) ?_
              refine pT (.pointer (some ⟨O5, 8, none⟩)) ?_
              refine pl_take (.slice a n c) rfl (by kernel_rfl) (by kernel_rfl) (by kernel_rfl) (ex_load rfl (by kernel_rfl) (ld29 (bO5_8.1))) ?_
              refine pT (.int .i64 (((n : Nat) : Int) : Int)) ?_
              by_cases hc18 : (((n : Nat) : Int) : Int) > (6 : Int)
              ·
                refine pl_take (.bool true) rfl (by kernel_rfl) (by kernel_rfl) (by kernel_rfl) (ev_dec (show _ = Result.ok (Next.value (Value.bool (decide ((((n : Nat) : Int) : Int) > (6 : Int))))) _ from by kernel_rfl) (hc18)) ?_
                refine pT (.bool true) ?_
                refine pl_nil ?_
                refine qw_then ?_
                refine cw_clean [1, 41] (ws' := [(1, .pointer (some ⟨O5, 0, none⟩)), (41, .bool true)]) (by kernel_rfl) (fun L => ?_)
                refine cw_t (by kernel_rfl) ?_
                refine cw_seq ?_
                refine cw_plain ?_
                refine pT (.bool false) ?_
                refine pl_nil ?_
                refine qw_then ?_
                refine cw_ret ?_
                refine qw_then_ret ?_
                refine qw_ret [.bool false] rfl ⟨(by kernel_rfl), trivial⟩ ?_
                exact ⟨congrArg (fun b => Ending.returned (Value.bool b)) (show Mem.canB o = false from Bool.eq_false_iff.2 fun hz => by have hz := (Mem.can_parts hz).2; omega).symm, hE⟩
              ·
                refine pl_take (.bool false) rfl (by kernel_rfl) (by kernel_rfl) (by kernel_rfl) (ev_ndec (show _ = Result.ok (Next.value (Value.bool (decide ((((n : Nat) : Int) : Int) > (6 : Int))))) _ from by kernel_rfl) (hc18)) ?_
                refine pT (.bool false) ?_
                refine pl_nil ?_
                refine qw_then ?_
                refine cw_clean [1, 41] (ws' := [(1, .pointer (some ⟨O5, 0, none⟩)), (41, .bool false)]) (by kernel_rfl) (fun L => ?_)
                refine cw_f (by kernel_rfl) ?_
                refine cw_skip ?_
                refine qw_then ?_
                refine cw_seq ?_
                have hsp9 := Mem.spB_t.1 hb13; simp only [] at hsp9
                refine cw_plain ?_
                refine pT (.pointer (some ⟨O5, 4, none⟩)) ?_
                refine pT (.pointer (some ⟨O5, 5, none⟩)) ?_
                refine pl_take (.int .i64 (o.to : Int)) rfl (by kernel_rfl) (by kernel_rfl) (by kernel_rfl) (ex_load rfl (by kernel_rfl) (ld3 (bO5_5.1))) ?_
                refine pT (.int .i64 (o.to : Int)) ?_
                refine pl_nil ?_
                refine qw_then ?_
                refine cw_seq ?_
                refine cw_seq ?_
                refine cw_plain ?_
                refine pT (.int .i64 0) ?_
                refine pl_nil ?_
                refine qw_then ?_
                refine cw_block ?_
                refine cw_loop [1, 3, 4] (fun ws' wr m => ∃ i : Nat, ∃ e3 : Int, ws' = [(1, .pointer (some ⟨O5, 0, none⟩)), (3, .int .i64 (e3 : Int)), (4, .int .i64 (((i : Nat) : Int) : Int))] ∧ m = n - i ∧ w15.heap.size ≤ wr.heap.size ∧ Ext w0 wr ∧ Ext w wr ∧ BoxAt wr O5 0 (.int .i64 (o.id : Int)) ∧ BoxAt wr O5 1 (.int .i64 (o.od : Int)) ∧ BoxAt wr O5 2 (.int .i64 (o.cl : Int)) ∧ BoxAt wr O5 3 (.int .i64 (o.sa : Int)) ∧ BoxAt wr O5 4 (.int .i64 (o.fr : Int)) ∧ BoxAt wr O5 5 (.int .i64 (o.to : Int)) ∧ BoxAt wr O5 6 (.int .i64 (o.lk : Int)) ∧ BoxAt wr O5 7 (.int .i64 (o.sz : Int)) ∧ BoxAt wr O5 8 (.slice a n c) ∧ i ≤ n ∧ Mem.chainB o.to (o.sl.take i) = true ∧ Mem.lastTo o.to (o.sl.take i) = e3 ∧ 0 ≤ e3) (ws0 := [(1, .pointer (some ⟨O5, 0, none⟩)), (3, .int .i64 (o.to : Int)), (4, .int .i64 0)]) (by kernel_rfl) _ ⟨0, o.to, rfl, rfl, Nat.le_refl _, e0, hE, bO5_0, bO5_1, bO5_2, bO5_3, bO5_4, bO5_5, bO5_6, bO5_7, bO5_8, Nat.zero_le _, (by rw [List.take_zero]; rfl), (by rw [List.take_zero]; rfl), by omega⟩ ?_
                clear bO5_0 bO5_1 bO5_2 bO5_3 bO5_4 bO5_5 bO5_6 bO5_7 bO5_8 e0 hE
                rintro m21 L ws w20 ⟨i, e3, rfl, rfl, hs19, e0, hE, bO5_0, bO5_1, bO5_2, bO5_3, bO5_4, bO5_5, bO5_6, bO5_7, bO5_8, hi, hch, hla, he3⟩
                by_cases hlt : i < n
                ·
                  obtain rfl := ha (by omega)
                  obtain ⟨q22, q23, q24⟩ := hx i hlt
                  refine cw_seq ?_
                  refine cw_seq ?_
                  refine cw_plain ?_
                  refine pT (.int .i64 (((i : Nat) : Int) : Int)) ?_
                  refine pT (.pointer (some ⟨O5, 8, none⟩)) ?_
                  refine pl_take (.slice (some ⟨bs, os, none⟩) n c) rfl (by kernel_rfl) (by kernel_rfl) (by kernel_rfl) (ex_load rfl (by kernel_rfl) (ld29 (bO5_8.1))) ?_
                  refine pT (.int .i64 (((n : Nat) : Int) : Int)) ?_
                  refine pl_take (.bool true) rfl (by kernel_rfl) (by kernel_rfl) (by kernel_rfl) (ev_dec (show _ = Result.ok (Next.value (Value.bool (decide ((((i : Nat) : Int) : Int) < (((n : Nat) : Int) : Int))))) _ from by kernel_rfl) (by omega)) ?_
                  refine pl_nil ?_
                  refine qw_then ?_
                  refine cw_t (by kernel_rfl) ?_
                  refine cw_skip ?_
                  refine qw_then ?_
                  refine cw_seq ?_
                  refine cw_block ?_
                  refine cw_seq ?_
                  refine cw_plain ?_
                  refine pT (.pointer (some ⟨O5, 8, none⟩)) ?_
                  refine pl_take (.slice (some ⟨bs, os, none⟩) n c) rfl (by kernel_rfl) (by kernel_rfl) (by kernel_rfl) (ex_load rfl (by kernel_rfl) (ld29 (bO5_8.1))) ?_
                  refine pT (.int .i64 (((i : Nat) : Int) : Int)) ?_
                  refine pl_take (.pointer (some ⟨bs, os + i * 3, none⟩)) rfl (by kernel_rfl) (by kernel_rfl) (by kernel_rfl) (ex_index (p := .slice (some ⟨bs, os, none⟩) n c) (i := .int .i64 ((i : Nat) : Int)) rfl (by kernel_rfl) (by kernel_rfl) (ix29 (k := i) (by omega))) ?_
                  refine pT (.pointer (some ⟨bs, os + i * 3 + 1, none⟩)) ?_
                  refine pl_take (.agg #[.int .i64 ((slN o.sl i).fr : Int), .int .i64 ((slN o.sl i).to : Int)]) rfl (by kernel_rfl) (by kernel_rfl) (by kernel_rfl) (ex_load rfl (by kernel_rfl) (ld24 ((e0.cell q23)) ((e0.cell q24)))) ?_
                  refine pl_step rfl (by kernel_rfl) (by kernel_rfl) (by kernel_rfl) (sn_new (us := #[.int .i64 0, .int .i64 0]) (t := 24) (by kernel_rfl) ?_)
                  intro O25 X26 hO hOs hb hbx
                  have hzO25 := hO; have hyO25 := hOs; clear hO hOs
                  have bO25_0 : BoxAt X26 O25 0 (.int .i64 0) := hbx 0 _ rfl
                  have bO25_1 : BoxAt X26 O25 1 (.int .i64 0) := hbx 1 _ rfl
                  clear hbx
                  replace e0 := e0.trans hb
                  replace hE := hE.trans hb
                  replace bO5_0 := BoxAt.ext hb bO5_0
                  replace bO5_1 := BoxAt.ext hb bO5_1
                  replace bO5_2 := BoxAt.ext hb bO5_2
                  replace bO5_3 := BoxAt.ext hb bO5_3
                  replace bO5_4 := BoxAt.ext hb bO5_4
                  replace bO5_5 := BoxAt.ext hb bO5_5
                  replace bO5_6 := BoxAt.ext hb bO5_6
                  replace bO5_7 := BoxAt.ext hb bO5_7
                  replace bO5_8 := BoxAt.ext hb bO5_8
                  have hs27 := hb.size
                  clear hb
                  have lt28 := bO25_0.lt
                  refine pl_put rfl (by kernel_rfl) (by kernel_rfl) (sn_set2 (O := O25) (j := 0) (v := .int .i64 ((slN o.sl i).fr : Int)) (v' := .int .i64 ((slN o.sl i).to : Int)) (ex_store (p := .pointer (some ⟨O25, 0, none⟩)) (v := .agg #[.int .i64 ((slN o.sl i).fr : Int), .int .i64 ((slN o.sl i).to : Int)]) rfl (by kernel_rfl) (by kernel_rfl) (st24 bO25_0.1 bO25_0.2 bO25_1.1 bO25_1.2)) bO25_0 bO25_1 ?_)
                  intro X29 ho hv0 hv1 hk
                  replace e0 := ho.ext e0 (Nat.le_trans (Nat.le_trans hs0 (Nat.le_trans hs7 (Nat.le_trans hs16 hs19))) (Nat.le_of_eq hzO25))
                  replace hE := ho.ext hE (Nat.le_trans (Nat.le_trans hs7 (Nat.le_trans hs16 hs19)) (Nat.le_of_eq hzO25))
                  replace bO5_0 := ho.box (Nat.ne_of_gt (Nat.lt_of_lt_of_le lt8 (Nat.le_trans (Nat.le_trans hs16 hs19) (Nat.le_of_eq hzO25)))) bO5_0
                  replace bO5_1 := ho.box (Nat.ne_of_gt (Nat.lt_of_lt_of_le lt8 (Nat.le_trans (Nat.le_trans hs16 hs19) (Nat.le_of_eq hzO25)))) bO5_1
                  replace bO5_2 := ho.box (Nat.ne_of_gt (Nat.lt_of_lt_of_le lt8 (Nat.le_trans (Nat.le_trans hs16 hs19) (Nat.le_of_eq hzO25)))) bO5_2
                  replace bO5_3 := ho.box (Nat.ne_of_gt (Nat.lt_of_lt_of_le lt8 (Nat.le_trans (Nat.le_trans hs16 hs19) (Nat.le_of_eq hzO25)))) bO5_3
                  replace bO5_4 := ho.box (Nat.ne_of_gt (Nat.lt_of_lt_of_le lt8 (Nat.le_trans (Nat.le_trans hs16 hs19) (Nat.le_of_eq hzO25)))) bO5_4
                  replace bO5_5 := ho.box (Nat.ne_of_gt (Nat.lt_of_lt_of_le lt8 (Nat.le_trans (Nat.le_trans hs16 hs19) (Nat.le_of_eq hzO25)))) bO5_5
                  replace bO5_6 := ho.box (Nat.ne_of_gt (Nat.lt_of_lt_of_le lt8 (Nat.le_trans (Nat.le_trans hs16 hs19) (Nat.le_of_eq hzO25)))) bO5_6
                  replace bO5_7 := ho.box (Nat.ne_of_gt (Nat.lt_of_lt_of_le lt8 (Nat.le_trans (Nat.le_trans hs16 hs19) (Nat.le_of_eq hzO25)))) bO5_7
                  replace bO5_8 := ho.box (Nat.ne_of_gt (Nat.lt_of_lt_of_le lt8 (Nat.le_trans (Nat.le_trans hs16 hs19) (Nat.le_of_eq hzO25)))) bO5_8
                  have hs30 : X26.heap.size ≤ X29.heap.size := Nat.le_of_eq ho.size.symm
                  clear ho hk bO25_0 bO25_1
                  have bO25_0 := hv0; clear hv0
                  have bO25_1 := hv1; clear hv1
                  refine pl_nil ?_
                  refine qw_then ?_
                  refine cw_clean [1, 3, 4, 5] (ws' := [(1, .pointer (some ⟨O5, 0, none⟩)), (3, .int .i64 (e3 : Int)), (4, .int .i64 (((i : Nat) : Int) : Int)), (5, .pointer (some ⟨O25, 0, none⟩))]) (by kernel_rfl) (fun L => ?_)
                  refine cw_seq ?_
                  refine cw_seq ?_
                  refine cw_plain ?_
                  refine pT (.pointer (some ⟨O25, 0, none⟩)) ?_
                  refine pl_take (.int .i64 ((slN o.sl i).fr : Int)) rfl (by kernel_rfl) (by kernel_rfl) (by kernel_rfl) (ex_load rfl (by kernel_rfl) (ld3 (bO25_0.1))) ?_
                  refine pT (.int .i64 (e3 : Int)) ?_
                  by_cases hc31 : ((slN o.sl i).fr : Int) < (e3 : Int)
                  ·
                    refine pl_take (.bool true) rfl (by kernel_rfl) (by kernel_rfl) (by kernel_rfl) (ev_dec (show _ = Result.ok (Next.value (Value.bool (decide (((slN o.sl i).fr : Int) < (e3 : Int))))) _ from by kernel_rfl) (hc31)) ?_
                    refine pT (.bool true) ?_
                    refine pl_skip rfl (by kernel_rfl) (by kernel_rfl) (by kernel_rfl) ?_
                    refine pl_skip rfl (by kernel_rfl) (by kernel_rfl) (by kernel_rfl) ?_
                    refine pl_skip rfl (by kernel_rfl) (by kernel_rfl) (by kernel_rfl) ?_
                    refine pl_skip rfl (by kernel_rfl) (by kernel_rfl) (by kernel_rfl) ?_
                    refine pl_skip rfl (by kernel_rfl) (by kernel_rfl) (by kernel_rfl) ?_
                    refine pT (.bool true) ?_
                    refine pT (.bool true) ?_
                    refine pl_skip rfl (by kernel_rfl) (by kernel_rfl) (by kernel_rfl) ?_
                    refine pl_skip rfl (by kernel_rfl) (by kernel_rfl) (by kernel_rfl) ?_
                    refine pl_skip rfl (by kernel_rfl) (by kernel_rfl) (by kernel_rfl) ?_
                    refine pT (.bool true) ?_
                    refine pl_nil ?_
                    refine qw_then ?_
                    refine cw_clean [1, 4, 5, 73] (ws' := [(1, .pointer (some ⟨O5, 0, none⟩)), (4, .int .i64 (((i : Nat) : Int) : Int)), (5, .pointer (some ⟨O25, 0, none⟩)), (73, .bool true)]) (by kernel_rfl) (fun L => ?_)
                    refine cw_t (by kernel_rfl) ?_
                    refine cw_seq ?_
                    refine cw_plain ?_
                    refine pT (.bool false) ?_
                    refine pl_nil ?_
                    refine qw_then ?_
                    refine cw_ret ?_
                    refine qw_then_ret ?_
                    refine qw_block_ret ?_
                    refine qw_then_ret ?_
                    refine qw_then_ret ?_
                    refine qw_block_ret ?_
                    refine qw_then_ret ?_
                    refine qw_ret [.bool false] rfl ⟨(by kernel_rfl), trivial⟩ ?_
                    exact ⟨congrArg (fun b => Ending.returned (Value.bool b)) (show Mem.canB o = false from Bool.eq_false_iff.2 fun hz => by
                      have hz := (Mem.can_parts hz).1
                      rw [Mem.chain_bad (i := i) (by omega) (Bool.eq_false_iff.2 fun hz => by
                        obtain ⟨z1, z2⟩ := Bool.and_eq_true_iff.1 hz
                        have z1 := of_decide_eq_true z1
                        have z2 := Mem.spB_t.1 z2
                        simp only [] at z2; omega)] at hz
                      cases hz).symm, hE⟩
                  ·
                    refine pl_take (.bool false) rfl (by kernel_rfl) (by kernel_rfl) (by kernel_rfl) (ev_ndec (show _ = Result.ok (Next.value (Value.bool (decide (((slN o.sl i).fr : Int) < (e3 : Int))))) _ from by kernel_rfl) (hc31)) ?_
                    refine pT (.bool false) ?_
                    refine pT (.pointer (some ⟨O25, 1, none⟩)) ?_
                    refine pl_take (.int .i64 ((slN o.sl i).to : Int)) rfl (by kernel_rfl) (by kernel_rfl) (by kernel_rfl) (ex_load rfl (by kernel_rfl) (ld3 (bO25_1.1))) ?_
                    refine pT (.pointer (some ⟨O25, 0, none⟩)) ?_
                    refine pl_take (.int .i64 ((slN o.sl i).fr : Int)) rfl (by kernel_rfl) (by kernel_rfl) (by kernel_rfl) (ex_load rfl (by kernel_rfl) (ld3 (bO25_0.1))) ?_
                    by_cases hc32 : ((slN o.sl i).to : Int) ≤ ((slN o.sl i).fr : Int)
                    ·
                      refine pl_take (.bool true) rfl (by kernel_rfl) (by kernel_rfl) (by kernel_rfl) (ev_dec (show _ = Result.ok (Next.value (Value.bool (decide (((slN o.sl i).to : Int) ≤ ((slN o.sl i).fr : Int))))) _ from by kernel_rfl) (hc32)) ?_
                      refine pT (.bool true) ?_
                      refine pT (.bool true) ?_
                      refine pl_skip rfl (by kernel_rfl) (by kernel_rfl) (by kernel_rfl) ?_
                      refine pl_skip rfl (by kernel_rfl) (by kernel_rfl) (by kernel_rfl) ?_
                      refine pl_skip rfl (by kernel_rfl) (by kernel_rfl) (by kernel_rfl) ?_
                      refine pT (.bool true) ?_
                      refine pl_nil ?_
                      refine qw_then ?_
                      refine cw_clean [1, 4, 5, 73] (ws' := [(1, .pointer (some ⟨O5, 0, none⟩)), (4, .int .i64 (((i : Nat) : Int) : Int)), (5, .pointer (some ⟨O25, 0, none⟩)), (73, .bool true)]) (by kernel_rfl) (fun L => ?_)
                      refine cw_t (by kernel_rfl) ?_
                      refine cw_seq ?_
                      refine cw_plain ?_
                      refine pT (.bool false) ?_
                      refine pl_nil ?_
                      refine qw_then ?_
                      refine cw_ret ?_
                      refine qw_then_ret ?_
                      refine qw_block_ret ?_
                      refine qw_then_ret ?_
                      refine qw_then_ret ?_
                      refine qw_block_ret ?_
                      refine qw_then_ret ?_
                      refine qw_ret [.bool false] rfl ⟨(by kernel_rfl), trivial⟩ ?_
                      exact ⟨congrArg (fun b => Ending.returned (Value.bool b)) (show Mem.canB o = false from Bool.eq_false_iff.2 fun hz => by
                        have hz := (Mem.can_parts hz).1
                        rw [Mem.chain_bad (i := i) (by omega) (Bool.eq_false_iff.2 fun hz => by
                          obtain ⟨z1, z2⟩ := Bool.and_eq_true_iff.1 hz
                          have z1 := of_decide_eq_true z1
                          have z2 := Mem.spB_t.1 z2
                          simp only [] at z2; omega)] at hz
                        cases hz).symm, hE⟩
                    ·
                      refine pl_take (.bool false) rfl (by kernel_rfl) (by kernel_rfl) (by kernel_rfl) (ev_ndec (show _ = Result.ok (Next.value (Value.bool (decide (((slN o.sl i).to : Int) ≤ ((slN o.sl i).fr : Int))))) _ from by kernel_rfl) (hc32)) ?_
                      refine pT (.bool false) ?_
                      refine pT (.bool false) ?_
                      refine pT (.pointer (some ⟨O25, 1, none⟩)) ?_
                      refine pl_take (.int .i64 ((slN o.sl i).to : Int)) rfl (by kernel_rfl) (by kernel_rfl) (by kernel_rfl) (ex_load rfl (by kernel_rfl) (ld3 (bO25_1.1))) ?_
                      by_cases hc33 : ((slN o.sl i).to : Int) > (1000001 : Int)
                      ·
                        refine pl_take (.bool true) rfl (by kernel_rfl) (by kernel_rfl) (by kernel_rfl) (ev_dec (show _ = Result.ok (Next.value (Value.bool (decide (((slN o.sl i).to : Int) > (1000001 : Int))))) _ from by kernel_rfl) (hc33)) ?_
                        refine pT (.bool true) ?_
                        refine pl_nil ?_
                        refine qw_then ?_
                        refine cw_clean [1, 4, 5, 73] (ws' := [(1, .pointer (some ⟨O5, 0, none⟩)), (4, .int .i64 (((i : Nat) : Int) : Int)), (5, .pointer (some ⟨O25, 0, none⟩)), (73, .bool true)]) (by kernel_rfl) (fun L => ?_)
                        refine cw_t (by kernel_rfl) ?_
                        refine cw_seq ?_
                        refine cw_plain ?_
                        refine pT (.bool false) ?_
                        refine pl_nil ?_
                        refine qw_then ?_
                        refine cw_ret ?_
                        refine qw_then_ret ?_
                        refine qw_block_ret ?_
                        refine qw_then_ret ?_
                        refine qw_then_ret ?_
                        refine qw_block_ret ?_
                        refine qw_then_ret ?_
                        refine qw_ret [.bool false] rfl ⟨(by kernel_rfl), trivial⟩ ?_
                        exact ⟨congrArg (fun b => Ending.returned (Value.bool b)) (show Mem.canB o = false from Bool.eq_false_iff.2 fun hz => by
                          have hz := (Mem.can_parts hz).1
                          rw [Mem.chain_bad (i := i) (by omega) (Bool.eq_false_iff.2 fun hz => by
                            obtain ⟨z1, z2⟩ := Bool.and_eq_true_iff.1 hz
                            have z1 := of_decide_eq_true z1
                            have z2 := Mem.spB_t.1 z2
                            simp only [] at z2; omega)] at hz
                          cases hz).symm, hE⟩
                      ·
                        refine pl_take (.bool false) rfl (by kernel_rfl) (by kernel_rfl) (by kernel_rfl) (ev_ndec (show _ = Result.ok (Next.value (Value.bool (decide (((slN o.sl i).to : Int) > (1000001 : Int))))) _ from by kernel_rfl) (hc33)) ?_
                        refine pT (.bool false) ?_
                        refine pl_nil ?_
                        refine qw_then ?_
                        refine cw_clean [1, 4, 5, 73] (ws' := [(1, .pointer (some ⟨O5, 0, none⟩)), (4, .int .i64 (((i : Nat) : Int) : Int)), (5, .pointer (some ⟨O25, 0, none⟩)), (73, .bool false)]) (by kernel_rfl) (fun L => ?_)
                        refine cw_f (by kernel_rfl) ?_
                        refine cw_skip ?_
                        refine qw_then ?_
                        refine cw_plain ?_
                        refine pT (.pointer (some ⟨O25, 1, none⟩)) ?_
                        refine pl_take (.int .i64 ((slN o.sl i).to : Int)) rfl (by kernel_rfl) (by kernel_rfl) (by kernel_rfl) (ex_load rfl (by kernel_rfl) (ld3 (bO25_1.1))) ?_
                        refine pT (.int .i64 ((slN o.sl i).to : Int)) ?_
                        refine pl_nil ?_
                        refine qw_block ?_
                        refine qw_then ?_
                        refine cw_plain ?_
                        refine pT (.int .i64 (((i : Nat) : Int) : Int)) ?_
                        refine pl_take (.int .i64 (((i + 1 : Nat) : Int) : Int)) rfl (by kernel_rfl) (by kernel_rfl) (by kernel_rfl) (ev_wrap (by kernel_rfl) (by omega) (by omega)) ?_
                        refine pT (.int .i64 (((i + 1 : Nat) : Int) : Int)) ?_
                        refine pl_nil ?_
                        refine qw_round [1, 3, 4] (ws' := [(1, .pointer (some ⟨O5, 0, none⟩)), (3, .int .i64 ((slN o.sl i).to : Int)), (4, .int .i64 (((i + 1 : Nat) : Int) : Int))]) (by kernel_rfl) _ ?_ ⟨(i + 1), (slN o.sl i).to, rfl, rfl, (Nat.le_trans hs19 (Nat.le_trans hs27 hs30)), e0, hE, bO5_0, bO5_1, bO5_2, bO5_3, bO5_4, bO5_5, bO5_6, bO5_7, bO5_8, by omega, (Mem.chain_next (by omega) hch (by omega) (Mem.spB_t.2 ⟨⟨by simp only []; omega, by simp only []; omega⟩, by simp only []; omega⟩)), (Mem.last_next (by omega)), by omega⟩
                        omega
                ·
                  have hch9 : Mem.chainB o.to o.sl = true := by rw [List.take_of_length_le (by omega)] at hch; exact hch
                  refine cw_seq ?_
                  refine cw_seq ?_
                  refine cw_plain ?_
                  refine pT (.int .i64 (((i : Nat) : Int) : Int)) ?_
                  refine pT (.pointer (some ⟨O5, 8, none⟩)) ?_
                  refine pl_take (.slice a n c) rfl (by kernel_rfl) (by kernel_rfl) (by kernel_rfl) (ex_load rfl (by kernel_rfl) (ld29 (bO5_8.1))) ?_
                  refine pT (.int .i64 (((n : Nat) : Int) : Int)) ?_
                  refine pl_take (.bool false) rfl (by kernel_rfl) (by kernel_rfl) (by kernel_rfl) (ev_ndec (show _ = Result.ok (Next.value (Value.bool (decide ((((i : Nat) : Int) : Int) < (((n : Nat) : Int) : Int))))) _ from by kernel_rfl) (by omega)) ?_
                  refine pl_nil ?_
                  refine qw_then ?_
                  refine cw_f (by kernel_rfl) ?_
                  refine cw_exit ?_
                  refine qw_then_exit ?_
                  refine qw_then_exit ?_
                  refine qw_block_out ?_
                  refine qw_then ?_
                  refine cw_seq ?_
                  refine cw_plain ?_
                  refine pT (.bool true) ?_
                  refine pl_nil ?_
                  refine qw_then ?_
                  refine cw_ret ?_
                  refine qw_ret [.bool true] rfl ⟨(by kernel_rfl), trivial⟩ ?_
                  exact ⟨congrArg (fun b => Ending.returned (Value.bool b)) (show Mem.canB o = true from Mem.can_mk (id := o.id) (od := o.od) (cl := o.cl) (sa := o.sa) (fr := o.fr) (to := o.to) (lk := o.lk) (sz := o.sz) (sl := o.sl) hch9 (by omega) (by omega) (by omega) (by omega)).symm, hE⟩
          ·
            refine pl_step rfl (by kernel_rfl) (by kernel_rfl) (by kernel_rfl) (sn_call (f := 48) (args := #[.agg #[.int .i64 (o.fr : Int), .int .i64 (o.to : Int)]]) (by kernel_rfl) ((proper_r (r := false) o.fr o.to _ (hb13)).mono ?_))
            rintro e w34 ⟨rfl, hb⟩
            replace e0 := e0.trans hb
            replace hE := hE.trans hb
            replace bO5_0 := BoxAt.ext hb bO5_0
            replace bO5_1 := BoxAt.ext hb bO5_1
            replace bO5_2 := BoxAt.ext hb bO5_2
            replace bO5_3 := BoxAt.ext hb bO5_3
            replace bO5_4 := BoxAt.ext hb bO5_4
            replace bO5_5 := BoxAt.ext hb bO5_5
            replace bO5_6 := BoxAt.ext hb bO5_6
            replace bO5_7 := BoxAt.ext hb bO5_7
            replace bO5_8 := BoxAt.ext hb bO5_8
            have hs35 := hb.size
            clear hb
            refine ⟨_, rfl, ?_⟩
            refine pT (.bool true) ?_
            refine pT (.bool true) ?_
            refine pT (.bool true) ?_
            refine pl_skip rfl (by kernel_rfl) (by kernel_rfl) (by kernel_rfl) ?_
            refine pl_skip rfl (by kernel_rfl) (by kernel_rfl) (by kernel_rfl) ?_
            refine pl_skip rfl (by kernel_rfl) (by kernel_rfl) (by kernel_rfl) ?_
            refine pl_skip rfl (by kernel_rfl) (by kernel_rfl) (by kernel_rfl) ?_
            refine pT (.bool true) ?_
            refine pT (.bool true) ?_
            refine pl_skip rfl (by kernel_rfl) (by kernel_rfl) (by kernel_rfl) ?_
            refine pl_skip rfl (by kernel_rfl) (by kernel_rfl) (by kernel_rfl) ?_
            refine pl_skip rfl (by kernel_rfl) (by kernel_rfl) (by kernel_rfl) ?_
            refine pl_skip rfl (by kernel_rfl) (by kernel_rfl) (by kernel_rfl) ?_
            refine pT (.bool true) ?_
            refine pl_nil ?_
            refine qw_then ?_
            refine cw_clean [1, 41] (ws' := [(1, .pointer (some ⟨O5, 0, none⟩)), (41, .bool true)]) (by kernel_rfl) (fun L => ?_)
            refine cw_t (by kernel_rfl) ?_
            refine cw_seq ?_
            refine cw_plain ?_
            refine pT (.bool false) ?_
            refine pl_nil ?_
            refine qw_then ?_
            refine cw_ret ?_
            refine qw_then_ret ?_
            refine qw_ret [.bool false] rfl ⟨(by kernel_rfl), trivial⟩ ?_
            exact ⟨congrArg (fun b => Ending.returned (Value.bool b)) (show Mem.canB o = false from Bool.eq_false_iff.2 fun hz => by have hz : Mem.spB (o.fr, o.to) = true := Mem.spB_t.2 (Mem.can_parts hz).2.2.2.1; rw [hb13] at hz; cases hz).symm, hE⟩
theorem rcan_r {w0 : World} {a : Option Addr} {n : Nat} {o : Mem.Opt} {r : Bool} (c : Nat) (w : World) (h : SlsAt w0 a n o.sl) (e0 : Ext w0 w) (hr : Mem.canB o = r) : Calls Try.prog 50 #[.agg #[.int .i64 o.id, .int .i64 o.od, .int .i64 o.cl, .int .i64 o.sa, .int .i64 o.fr, .int .i64 o.to, .int .i64 o.lk, .int .i64 o.sz, .slice a n c]] w fun e w' => e = .returned (.bool r) ∧ Ext w w' := hr ▸ rcan_c c w h e0
set_option maxRecDepth 1000000 in
set_option maxHeartbeats 4000000 in
theorem rFreed_c {w0 : World} {a : Option Addr} {n : Nat} {o : Mem.Opt} (k : Int) (c : Nat) (w : World) (h : SlsAt w0 a n o.sl) (e0 : Ext w0 w) : Calls Try.prog 31 #[.agg #[.int .i64 o.id, .int .i64 o.od, .int .i64 o.cl, .int .i64 o.sa, .int .i64 o.fr, .int .i64 o.to, .int .i64 o.lk, .int .i64 o.sz, .slice a n c], .int .i64 k] w fun e w' => e = .returned (.tuple #[.agg #[.int .i64 (Mem.freeV o k).im, .int .i64 (Mem.freeV o k).un, .int .i64 (Mem.freeV o k).fr, .int .i64 (Mem.freeV o k).to], .int .i64 (Mem.freeE o k)]) ∧ Ext w w' := by
  have hln := h.1; have hmx := h.2.1; have hq := h
  have hs0 := e0.size
  refine calls_cw 37 [(1, .int .i64 (k : Int)), (0, .agg #[.int .i64 (o.id : Int), .int .i64 (o.od : Int), .int .i64 (o.cl : Int), .int .i64 (o.sa : Int), .int .i64 (o.fr : Int), .int .i64 (o.to : Int), .int .i64 (o.lk : Int), .int .i64 (o.sz : Int), .slice a n c])] Try.func31 rfl Try.ntmps31 (by kernel_rfl) (by kernel_rfl) (fun L => ?_)
  have hE : Ext w w := Ext.refl w
  refine cw_seq ?_
  refine cw_plain ?_
  refine pl_step rfl (by kernel_rfl) (by kernel_rfl) (by kernel_rfl) (sn_new (us := #[.int .i64 (o.id : Int), .int .i64 (o.od : Int), .int .i64 (o.cl : Int), .int .i64 (o.sa : Int), .int .i64 (o.fr : Int), .int .i64 (o.to : Int), .int .i64 (o.lk : Int), .int .i64 (o.sz : Int), .slice a n c]) (t := 31) (by kernel_rfl) ?_)
  intro O5 X6 hO hOs hb hbx
  have hzO5 := hO; have hyO5 := hOs; clear hO hOs
  have bO5_0 : BoxAt X6 O5 0 (.int .i64 (o.id : Int)) := hbx 0 _ rfl
  have bO5_1 : BoxAt X6 O5 1 (.int .i64 (o.od : Int)) := hbx 1 _ rfl
  have bO5_2 : BoxAt X6 O5 2 (.int .i64 (o.cl : Int)) := hbx 2 _ rfl
  have bO5_3 : BoxAt X6 O5 3 (.int .i64 (o.sa : Int)) := hbx 3 _ rfl
  have bO5_4 : BoxAt X6 O5 4 (.int .i64 (o.fr : Int)) := hbx 4 _ rfl
  have bO5_5 : BoxAt X6 O5 5 (.int .i64 (o.to : Int)) := hbx 5 _ rfl
  have bO5_6 : BoxAt X6 O5 6 (.int .i64 (o.lk : Int)) := hbx 6 _ rfl
  have bO5_7 : BoxAt X6 O5 7 (.int .i64 (o.sz : Int)) := hbx 7 _ rfl
  have bO5_8 : BoxAt X6 O5 8 (.slice a n c) := hbx 8 _ rfl
  clear hbx
  replace e0 := e0.trans hb
  replace hE := hE.trans hb
  have hs7 := hb.size
  clear hb
  have lt8 := bO5_0.lt
  refine pl_step rfl (by kernel_rfl) (by kernel_rfl) (by kernel_rfl) (sn_new (us := #[.int .i64 0, .int .i64 0, .int .i64 0, .int .i64 0]) (t := 26) (by kernel_rfl) ?_)
  intro O9 X10 hO hOs hb hbx
  have hzO9 := hO; have hyO9 := hOs; clear hO hOs
  have bO9_0 : BoxAt X10 O9 0 (.int .i64 0) := hbx 0 _ rfl
  have bO9_1 : BoxAt X10 O9 1 (.int .i64 0) := hbx 1 _ rfl
  have bO9_2 : BoxAt X10 O9 2 (.int .i64 0) := hbx 2 _ rfl
  have bO9_3 : BoxAt X10 O9 3 (.int .i64 0) := hbx 3 _ rfl
  clear hbx
  replace e0 := e0.trans hb
  replace hE := hE.trans hb
  replace bO5_0 := BoxAt.ext hb bO5_0
  replace bO5_1 := BoxAt.ext hb bO5_1
  replace bO5_2 := BoxAt.ext hb bO5_2
  replace bO5_3 := BoxAt.ext hb bO5_3
  replace bO5_4 := BoxAt.ext hb bO5_4
  replace bO5_5 := BoxAt.ext hb bO5_5
  replace bO5_6 := BoxAt.ext hb bO5_6
  replace bO5_7 := BoxAt.ext hb bO5_7
  replace bO5_8 := BoxAt.ext hb bO5_8
  have hs11 := hb.size
  clear hb
  have lt12 := bO9_0.lt
  refine pT (.int .i64 0) ?_
  refine pl_nil ?_
  refine qw_then ?_
  refine cw_seq ?_
  refine cw_seq ?_
  refine cw_plain ?_
  refine pl_take (.agg #[.int .i64 (o.id : Int), .int .i64 (o.od : Int), .int .i64 (o.cl : Int), .int .i64 (o.sa : Int), .int .i64 (o.fr : Int), .int .i64 (o.to : Int), .int .i64 (o.lk : Int), .int .i64 (o.sz : Int), .slice a n c]) rfl (by kernel_rfl) (by kernel_rfl) (by kernel_rfl) (ex_load rfl (by kernel_rfl) (ld31 (bO5_0.1) (bO5_1.1) (bO5_2.1) (bO5_3.1) (bO5_4.1) (bO5_5.1) (bO5_6.1) (bO5_7.1) (bO5_8.1))) ?_
  rcases Bool.eq_false_or_eq_true (Mem.canB o) with hb13 | hb13
  ·
    refine pl_step rfl (by kernel_rfl) (by kernel_rfl) (by kernel_rfl) (sn_call (f := 50) (args := #[.agg #[.int .i64 (o.id : Int), .int .i64 (o.od : Int), .int .i64 (o.cl : Int), .int .i64 (o.sa : Int), .int .i64 (o.fr : Int), .int .i64 (o.to : Int), .int .i64 (o.lk : Int), .int .i64 (o.sz : Int), .slice a n c]]) (by kernel_rfl) ((rcan_r (o := o) (r := true) _ _ hq e0 hb13).mono ?_))
    rintro e w14 ⟨rfl, hb⟩
    replace e0 := e0.trans hb
    replace hE := hE.trans hb
    replace bO5_0 := BoxAt.ext hb bO5_0
    replace bO5_1 := BoxAt.ext hb bO5_1
    replace bO5_2 := BoxAt.ext hb bO5_2
    replace bO5_3 := BoxAt.ext hb bO5_3
    replace bO5_4 := BoxAt.ext hb bO5_4
    replace bO5_5 := BoxAt.ext hb bO5_5
    replace bO5_6 := BoxAt.ext hb bO5_6
    replace bO5_7 := BoxAt.ext hb bO5_7
    replace bO5_8 := BoxAt.ext hb bO5_8
    replace bO9_0 := BoxAt.ext hb bO9_0
    replace bO9_1 := BoxAt.ext hb bO9_1
    replace bO9_2 := BoxAt.ext hb bO9_2
    replace bO9_3 := BoxAt.ext hb bO9_3
    have hs15 := hb.size
    clear hb
    refine ⟨_, rfl, ?_⟩
    refine pT (.bool false) ?_
    refine pT (.bool false) ?_
    refine pT (.int .i64 (k : Int)) ?_
    by_cases hc16 : (k : Int) < (0 : Int)
    ·
      refine pl_take (.bool true) rfl (by kernel_rfl) (by kernel_rfl) (by kernel_rfl) (ev_dec (show _ = Result.ok (Next.value (Value.bool (decide ((k : Int) < (0 : Int))))) _ from by kernel_rfl) (hc16)) ?_
      refine pT (.bool true) ?_
      refine pT (.bool true) ?_
      refine pl_skip rfl (by kernel_rfl) (by kernel_rfl) (by kernel_rfl) ?_
      refine pl_skip rfl (by kernel_rfl) (by kernel_rfl) (by kernel_rfl) ?_
      refine pl_skip rfl (by kernel_rfl) (by kernel_rfl) (by kernel_rfl) ?_
      refine pl_skip rfl (by kernel_rfl) (by kernel_rfl) (by kernel_rfl) ?_
      refine pl_skip rfl (by kernel_rfl) (by kernel_rfl) (by kernel_rfl) ?_
      refine pT (.bool true) ?_
      refine pl_nil ?_
      refine qw_then ?_
      refine cw_clean [1, 2, 4, 19] (ws' := [(1, .int .i64 (k : Int)), (2, .pointer (some ⟨O5, 0, none⟩)), (4, .pointer (some ⟨O9, 0, none⟩)), (19, .bool true)]) (by kernel_rfl) (fun L => ?_)
      refine cw_t (by kernel_rfl) ?_
      refine cw_seq ?_
      refine cw_plain ?_
      refine pT (.agg #[.int .i64 0, .int .i64 0, .int .i64 0, .int .i64 0]) ?_
      refine pl_put rfl (by kernel_rfl) (by kernel_rfl) (sn_setK4 (O := O9) (j := 0) (v0 := .int .i64 0) (v1 := .int .i64 0) (v2 := .int .i64 0) (v3 := .int .i64 0) (ex_store (p := .pointer (some ⟨O9, 0, none⟩)) (v := .agg #[.int .i64 0, .int .i64 0, .int .i64 0, .int .i64 0]) rfl (by kernel_rfl) (by kernel_rfl) (st26 bO9_0.1 bO9_0.2 bO9_1.1 bO9_1.2 bO9_2.1 bO9_2.2 bO9_3.1 bO9_3.2)) bO9_0 bO9_1 bO9_2 bO9_3 ?_)
      intro X17 ho hv0 hv1 hv2 hv3 hk
      replace e0 := ho.ext e0 (Nat.le_trans (Nat.le_trans hs0 hs7) (Nat.le_of_eq hzO9))
      replace hE := ho.ext hE (Nat.le_trans hs7 (Nat.le_of_eq hzO9))
      replace bO5_0 := ho.box (Nat.ne_of_gt (Nat.lt_of_lt_of_le lt8 (Nat.le_of_eq hzO9))) bO5_0
      replace bO5_1 := ho.box (Nat.ne_of_gt (Nat.lt_of_lt_of_le lt8 (Nat.le_of_eq hzO9))) bO5_1
      replace bO5_2 := ho.box (Nat.ne_of_gt (Nat.lt_of_lt_of_le lt8 (Nat.le_of_eq hzO9))) bO5_2
      replace bO5_3 := ho.box (Nat.ne_of_gt (Nat.lt_of_lt_of_le lt8 (Nat.le_of_eq hzO9))) bO5_3
      replace bO5_4 := ho.box (Nat.ne_of_gt (Nat.lt_of_lt_of_le lt8 (Nat.le_of_eq hzO9))) bO5_4
      replace bO5_5 := ho.box (Nat.ne_of_gt (Nat.lt_of_lt_of_le lt8 (Nat.le_of_eq hzO9))) bO5_5
      replace bO5_6 := ho.box (Nat.ne_of_gt (Nat.lt_of_lt_of_le lt8 (Nat.le_of_eq hzO9))) bO5_6
      replace bO5_7 := ho.box (Nat.ne_of_gt (Nat.lt_of_lt_of_le lt8 (Nat.le_of_eq hzO9))) bO5_7
      replace bO5_8 := ho.box (Nat.ne_of_gt (Nat.lt_of_lt_of_le lt8 (Nat.le_of_eq hzO9))) bO5_8
      have hs18 : w14.heap.size ≤ X17.heap.size := Nat.le_of_eq ho.size.symm
      clear ho hk bO9_0 bO9_1 bO9_2 bO9_3
      have bO9_0 := hv0; clear hv0
      have bO9_1 := hv1; clear hv1
      have bO9_2 := hv2; clear hv2
      have bO9_3 := hv3; clear hv3
      refine pT (.int .i64 110) ?_
      refine pl_nil ?_
      refine qw_then ?_
      refine cw_ret ?_
      refine qw_then_ret ?_
      refine qw_ret [.agg #[.int .i64 0, .int .i64 0, .int .i64 0, .int .i64 0], .int .i64 110] rfl ⟨⟨_, by kernel_rfl, res_ld (ld26 (bO9_0.1) (bO9_1.1) (bO9_2.1) (bO9_3.1))⟩, (by kernel_rfl), trivial⟩ ?_
      have hfb : Mem.freeB o k = false := by unfold Mem.freeB; rw [hln, show Globe.inB k 0 ((n : Int) - 1) = false from Bool.eq_false_iff.2 fun hz => by have := Globe.inB_t.1 hz; omega]; simp
      exact ⟨show Ending.returned _ = _ by rw [show Mem.freeV o k = ⟨0, 0, 0, 0⟩ by unfold Mem.freeV; rw [hfb]; rfl, show Mem.freeE o k = 110 by unfold Mem.freeE; rw [hfb]; rfl]; rfl, hE⟩
    ·
      refine pl_take (.bool false) rfl (by kernel_rfl) (by kernel_rfl) (by kernel_rfl) (ev_ndec (show _ = Result.ok (Next.value (Value.bool (decide ((k : Int) < (0 : Int))))) _ from by kernel_rfl) (hc16)) ?_
      refine pT (.bool false) ?_
      refine pT (.bool false) ?_
      refine pT (.int .i64 (k : Int)) ?_
      refine pT (.pointer (some ⟨O5, 8, none⟩)) ?_
      refine pl_take (.slice a n c) rfl (by kernel_rfl) (by kernel_rfl) (by kernel_rfl) (ex_load rfl (by kernel_rfl) (ld29 (bO5_8.1))) ?_
      refine pT (.int .i64 (((n : Nat) : Int) : Int)) ?_
      by_cases hc19 : (k : Int) ≥ (((n : Nat) : Int) : Int)
      ·
        refine pl_take (.bool true) rfl (by kernel_rfl) (by kernel_rfl) (by kernel_rfl) (ev_dec (show _ = Result.ok (Next.value (Value.bool (decide ((k : Int) ≥ (((n : Nat) : Int) : Int))))) _ from by kernel_rfl) (hc19)) ?_
        refine pT (.bool true) ?_
        refine pl_nil ?_
        refine qw_then ?_
        refine cw_clean [1, 2, 4, 19] (ws' := [(1, .int .i64 (k : Int)), (2, .pointer (some ⟨O5, 0, none⟩)), (4, .pointer (some ⟨O9, 0, none⟩)), (19, .bool true)]) (by kernel_rfl) (fun L => ?_)
        refine cw_t (by kernel_rfl) ?_
        refine cw_seq ?_
        refine cw_plain ?_
        refine pT (.agg #[.int .i64 0, .int .i64 0, .int .i64 0, .int .i64 0]) ?_
        refine pl_put rfl (by kernel_rfl) (by kernel_rfl) (sn_setK4 (O := O9) (j := 0) (v0 := .int .i64 0) (v1 := .int .i64 0) (v2 := .int .i64 0) (v3 := .int .i64 0) (ex_store (p := .pointer (some ⟨O9, 0, none⟩)) (v := .agg #[.int .i64 0, .int .i64 0, .int .i64 0, .int .i64 0]) rfl (by kernel_rfl) (by kernel_rfl) (st26 bO9_0.1 bO9_0.2 bO9_1.1 bO9_1.2 bO9_2.1 bO9_2.2 bO9_3.1 bO9_3.2)) bO9_0 bO9_1 bO9_2 bO9_3 ?_)
        intro X20 ho hv0 hv1 hv2 hv3 hk
        replace e0 := ho.ext e0 (Nat.le_trans (Nat.le_trans hs0 hs7) (Nat.le_of_eq hzO9))
        replace hE := ho.ext hE (Nat.le_trans hs7 (Nat.le_of_eq hzO9))
        replace bO5_0 := ho.box (Nat.ne_of_gt (Nat.lt_of_lt_of_le lt8 (Nat.le_of_eq hzO9))) bO5_0
        replace bO5_1 := ho.box (Nat.ne_of_gt (Nat.lt_of_lt_of_le lt8 (Nat.le_of_eq hzO9))) bO5_1
        replace bO5_2 := ho.box (Nat.ne_of_gt (Nat.lt_of_lt_of_le lt8 (Nat.le_of_eq hzO9))) bO5_2
        replace bO5_3 := ho.box (Nat.ne_of_gt (Nat.lt_of_lt_of_le lt8 (Nat.le_of_eq hzO9))) bO5_3
        replace bO5_4 := ho.box (Nat.ne_of_gt (Nat.lt_of_lt_of_le lt8 (Nat.le_of_eq hzO9))) bO5_4
        replace bO5_5 := ho.box (Nat.ne_of_gt (Nat.lt_of_lt_of_le lt8 (Nat.le_of_eq hzO9))) bO5_5
        replace bO5_6 := ho.box (Nat.ne_of_gt (Nat.lt_of_lt_of_le lt8 (Nat.le_of_eq hzO9))) bO5_6
        replace bO5_7 := ho.box (Nat.ne_of_gt (Nat.lt_of_lt_of_le lt8 (Nat.le_of_eq hzO9))) bO5_7
        replace bO5_8 := ho.box (Nat.ne_of_gt (Nat.lt_of_lt_of_le lt8 (Nat.le_of_eq hzO9))) bO5_8
        have hs21 : w14.heap.size ≤ X20.heap.size := Nat.le_of_eq ho.size.symm
        clear ho hk bO9_0 bO9_1 bO9_2 bO9_3
        have bO9_0 := hv0; clear hv0
        have bO9_1 := hv1; clear hv1
        have bO9_2 := hv2; clear hv2
        have bO9_3 := hv3; clear hv3
        refine pT (.int .i64 110) ?_
        refine pl_nil ?_
        refine qw_then ?_
        refine cw_ret ?_
        refine qw_then_ret ?_
        refine qw_ret [.agg #[.int .i64 0, .int .i64 0, .int .i64 0, .int .i64 0], .int .i64 110] rfl ⟨⟨_, by kernel_rfl, res_ld (ld26 (bO9_0.1) (bO9_1.1) (bO9_2.1) (bO9_3.1))⟩, (by kernel_rfl), trivial⟩ ?_
        have hfb : Mem.freeB o k = false := by unfold Mem.freeB; rw [hln, show Globe.inB k 0 ((n : Int) - 1) = false from Bool.eq_false_iff.2 fun hz => by have := Globe.inB_t.1 hz; omega]; simp
        exact ⟨show Ending.returned _ = _ by rw [show Mem.freeV o k = ⟨0, 0, 0, 0⟩ by unfold Mem.freeV; rw [hfb]; rfl, show Mem.freeE o k = 110 by unfold Mem.freeE; rw [hfb]; rfl]; rfl, hE⟩
      ·
        refine pl_take (.bool false) rfl (by kernel_rfl) (by kernel_rfl) (by kernel_rfl) (ev_ndec (show _ = Result.ok (Next.value (Value.bool (decide ((k : Int) ≥ (((n : Nat) : Int) : Int))))) _ from by kernel_rfl) (hc19)) ?_
        refine pT (.bool false) ?_
        refine pl_nil ?_
        refine qw_then ?_
        refine cw_clean [1, 2, 4, 19] (ws' := [(1, .int .i64 (k : Int)), (2, .pointer (some ⟨O5, 0, none⟩)), (4, .pointer (some ⟨O9, 0, none⟩)), (19, .bool false)]) (by kernel_rfl) (fun L => ?_)
        refine cw_f (by kernel_rfl) ?_
        refine cw_skip ?_
        refine qw_then ?_
        refine cw_seq ?_
        have hkb : 0 ≤ k ∧ k.toNat < n := ⟨by omega, by omega⟩
        have hkk : ((k.toNat : Nat) : Int) = k := Int.toNat_of_nonneg hkb.1
        obtain ⟨bs, os, ha, hbl, hx⟩ := h.parts
        obtain rfl := ha (by omega)
        obtain ⟨q22, q23, q24⟩ := hx k.toNat hkb.2
        refine cw_draw [(some 21, [2], []), (some 22, [21], [0]), (some 23, [2], []), (some 24, [23], [2]), (some 25, [2], []), (some 26, [25], [4]), (some 27, [26], [5]), (some 28, [2], []), (some 29, [28], [7]), (some 30, [1], []), (some 31, [29, 30], [8, 9]), (some 32, [31], [10]), (some 33, [32], [11]), (some 34, [33], [12]), (some 35, [27, 34], [6, 13]), (some 36, [22, 24, 35], [1, 3, 14]), (none, [4, 36], [15, 0, 1, 2, 3, 4, 5, 6, 7, 8, 9, 10, 11, 12, 13, 14, 15]), (some 5, [], [16, 0, 1, 2, 3, 4, 5, 6, 7, 8, 9, 10, 11, 12, 13, 14, 15, 16])] (fun w' => w'.cell? ⟨O5, 0, none⟩ = some (.int .i64 (o.id : Int)) ∧ w'.cell? ⟨O5, 7, none⟩ = some (.int .i64 (o.sz : Int)) ∧ w'.cell? ⟨O5, 4, none⟩ = some (.int .i64 (o.fr : Int)) ∧ w'.cell? ⟨O5, 8, none⟩ = some (.slice (some ⟨bs, os, none⟩) n c) ∧ w'.cell? ⟨bs, os + k.toNat * 3 + 1 + 1, none⟩ = some (.int .i64 ((slN o.sl k.toNat).to : Int))) (by kernel_rfl) (by kernel_rfl) (by kernel_rfl) (by kernel_rfl) ((calm_then calm_body)) (⟨bO5_0.1, bO5_7.1, bO5_4.1, bO5_8.1, (e0.cell q24)⟩) (fun ops Q X25 hb hL hR hK => ?_)
        replace e0 := e0.trans hb
        replace hE := hE.trans hb
        replace bO5_0 := BoxAt.ext hb bO5_0
        replace bO5_1 := BoxAt.ext hb bO5_1
        replace bO5_2 := BoxAt.ext hb bO5_2
        replace bO5_3 := BoxAt.ext hb bO5_3
        replace bO5_4 := BoxAt.ext hb bO5_4
        replace bO5_5 := BoxAt.ext hb bO5_5
        replace bO5_6 := BoxAt.ext hb bO5_6
        replace bO5_7 := BoxAt.ext hb bO5_7
        replace bO5_8 := BoxAt.ext hb bO5_8
        replace bO9_0 := BoxAt.ext hb bO9_0
        replace bO9_1 := BoxAt.ext hb bO9_1
        replace bO9_2 := BoxAt.ext hb bO9_2
        replace bO9_3 := BoxAt.ext hb bO9_3
        have hs26 := hb.size
        clear hb
        refine wd_take 0 (.pointer (some ⟨O5, 0, none⟩)) hR rfl (by kernel_rfl) rfl (by kernel_rfl) (fun w _ => by kernel_rfl) (⟨bO5_0.1, bO5_7.1, bO5_4.1, bO5_8.1, (e0.cell q24)⟩) ?_
        refine wd_take 1 (.int .i64 (o.id : Int)) hR rfl (by kernel_rfl) rfl (by kernel_rfl) (fun w hS => ex_load rfl (by kernel_rfl) (ld3 (hS.1))) (⟨bO5_0.1, bO5_7.1, bO5_4.1, bO5_8.1, (e0.cell q24)⟩) ?_
        refine wd_take 2 (.pointer (some ⟨O5, 7, none⟩)) hR rfl (by kernel_rfl) rfl (by kernel_rfl) (fun w _ => by kernel_rfl) (⟨bO5_0.1, bO5_7.1, bO5_4.1, bO5_8.1, (e0.cell q24)⟩) ?_
        refine wd_take 3 (.int .i64 (o.sz : Int)) hR rfl (by kernel_rfl) rfl (by kernel_rfl) (fun w hS => ex_load rfl (by kernel_rfl) (ld3 (hS.2.1))) (⟨bO5_0.1, bO5_7.1, bO5_4.1, bO5_8.1, (e0.cell q24)⟩) ?_
        refine wd_take 4 (.pointer (some ⟨O5, 4, none⟩)) hR rfl (by kernel_rfl) rfl (by kernel_rfl) (fun w _ => by kernel_rfl) (⟨bO5_0.1, bO5_7.1, bO5_4.1, bO5_8.1, (e0.cell q24)⟩) ?_
        refine wd_take 5 (.pointer (some ⟨O5, 4, none⟩)) hR rfl (by kernel_rfl) rfl (by kernel_rfl) (fun w _ => by kernel_rfl) (⟨bO5_0.1, bO5_7.1, bO5_4.1, bO5_8.1, (e0.cell q24)⟩) ?_
        refine wd_take 6 (.int .i64 (o.fr : Int)) hR rfl (by kernel_rfl) rfl (by kernel_rfl) (fun w hS => ex_load rfl (by kernel_rfl) (ld3 (hS.2.2.1))) (⟨bO5_0.1, bO5_7.1, bO5_4.1, bO5_8.1, (e0.cell q24)⟩) ?_
        refine wd_take 7 (.pointer (some ⟨O5, 8, none⟩)) hR rfl (by kernel_rfl) rfl (by kernel_rfl) (fun w _ => by kernel_rfl) (⟨bO5_0.1, bO5_7.1, bO5_4.1, bO5_8.1, (e0.cell q24)⟩) ?_
        refine wd_take 8 (.slice (some ⟨bs, os, none⟩) n c) hR rfl (by kernel_rfl) rfl (by kernel_rfl) (fun w hS => ex_load rfl (by kernel_rfl) (ld29 (hS.2.2.2.1))) (⟨bO5_0.1, bO5_7.1, bO5_4.1, bO5_8.1, (e0.cell q24)⟩) ?_
        refine wd_take 9 (.int .i64 (k : Int)) hR rfl (by kernel_rfl) rfl (by kernel_rfl) (fun w _ => by kernel_rfl) (⟨bO5_0.1, bO5_7.1, bO5_4.1, bO5_8.1, (e0.cell q24)⟩) ?_
        refine wd_take 10 (.pointer (some ⟨bs, os + k.toNat * 3, none⟩)) hR rfl (by kernel_rfl) rfl (by kernel_rfl) (fun w _ => ex_index (p := .slice (some ⟨bs, os, none⟩) n c) (i := .int .i64 k) rfl (by kernel_rfl) (by kernel_rfl) (ixz29 hkb.1 hkb.2)) (⟨bO5_0.1, bO5_7.1, bO5_4.1, bO5_8.1, (e0.cell q24)⟩) ?_
        refine wd_take 11 (.pointer (some ⟨bs, os + k.toNat * 3 + 1, none⟩)) hR rfl (by kernel_rfl) rfl (by kernel_rfl) (fun w _ => by kernel_rfl) (⟨bO5_0.1, bO5_7.1, bO5_4.1, bO5_8.1, (e0.cell q24)⟩) ?_
        refine wd_take 12 (.pointer (some ⟨bs, os + k.toNat * 3 + 1 + 1, none⟩)) hR rfl (by kernel_rfl) rfl (by kernel_rfl) (fun w _ => by kernel_rfl) (⟨bO5_0.1, bO5_7.1, bO5_4.1, bO5_8.1, (e0.cell q24)⟩) ?_
        refine wd_take 13 (.int .i64 ((slN o.sl k.toNat).to : Int)) hR rfl (by kernel_rfl) rfl (by kernel_rfl) (fun w hS => ex_load rfl (by kernel_rfl) (ld3 (hS.2.2.2.2))) (⟨bO5_0.1, bO5_7.1, bO5_4.1, bO5_8.1, (e0.cell q24)⟩) ?_
        refine wd_take 14 (.agg #[.int .i64 (o.fr : Int), .int .i64 ((slN o.sl k.toNat).to : Int)]) hR rfl (by kernel_rfl) rfl (by kernel_rfl) (fun w _ => by kernel_rfl) (⟨bO5_0.1, bO5_7.1, bO5_4.1, bO5_8.1, (e0.cell q24)⟩) ?_
        refine wd_take 15 (.agg #[.int .i64 (o.id : Int), .int .i64 (o.sz : Int), .int .i64 (o.fr : Int), .int .i64 ((slN o.sl k.toNat).to : Int)]) hR rfl (by kernel_rfl) rfl (by kernel_rfl) (fun w _ => by kernel_rfl) (⟨bO5_0.1, bO5_7.1, bO5_4.1, bO5_8.1, (e0.cell q24)⟩) ?_
        refine wd_step 16 hR rfl (by kernel_rfl) (by kernel_rfl) (by kernel_rfl) (sn_setK4 (O := O9) (j := 0) (v0 := .int .i64 (o.id : Int)) (v1 := .int .i64 (o.sz : Int)) (v2 := .int .i64 (o.fr : Int)) (v3 := .int .i64 ((slN o.sl k.toNat).to : Int)) (ex_store (p := .pointer (some ⟨O9, 0, none⟩)) (v := .agg #[.int .i64 (o.id : Int), .int .i64 (o.sz : Int), .int .i64 (o.fr : Int), .int .i64 ((slN o.sl k.toNat).to : Int)]) rfl (by kernel_rfl) (by kernel_rfl) (st26 bO9_0.1 bO9_0.2 bO9_1.1 bO9_1.2 bO9_2.1 bO9_2.2 bO9_3.1 bO9_3.2)) bO9_0 bO9_1 bO9_2 bO9_3 ?_)
        intro X27 ho hv0 hv1 hv2 hv3 hk
        replace e0 := ho.ext e0 (Nat.le_trans (Nat.le_trans hs0 hs7) (Nat.le_of_eq hzO9))
        replace hE := ho.ext hE (Nat.le_trans hs7 (Nat.le_of_eq hzO9))
        replace bO5_0 := ho.box (Nat.ne_of_gt (Nat.lt_of_lt_of_le lt8 (Nat.le_of_eq hzO9))) bO5_0
        replace bO5_1 := ho.box (Nat.ne_of_gt (Nat.lt_of_lt_of_le lt8 (Nat.le_of_eq hzO9))) bO5_1
        replace bO5_2 := ho.box (Nat.ne_of_gt (Nat.lt_of_lt_of_le lt8 (Nat.le_of_eq hzO9))) bO5_2
        replace bO5_3 := ho.box (Nat.ne_of_gt (Nat.lt_of_lt_of_le lt8 (Nat.le_of_eq hzO9))) bO5_3
        replace bO5_4 := ho.box (Nat.ne_of_gt (Nat.lt_of_lt_of_le lt8 (Nat.le_of_eq hzO9))) bO5_4
        replace bO5_5 := ho.box (Nat.ne_of_gt (Nat.lt_of_lt_of_le lt8 (Nat.le_of_eq hzO9))) bO5_5
        replace bO5_6 := ho.box (Nat.ne_of_gt (Nat.lt_of_lt_of_le lt8 (Nat.le_of_eq hzO9))) bO5_6
        replace bO5_7 := ho.box (Nat.ne_of_gt (Nat.lt_of_lt_of_le lt8 (Nat.le_of_eq hzO9))) bO5_7
        replace bO5_8 := ho.box (Nat.ne_of_gt (Nat.lt_of_lt_of_le lt8 (Nat.le_of_eq hzO9))) bO5_8
        have hs28 : X25.heap.size ≤ X27.heap.size := Nat.le_of_eq ho.size.symm
        clear ho hk bO9_0 bO9_1 bO9_2 bO9_3
        have bO9_0 := hv0; clear hv0
        have bO9_1 := hv1; clear hv1
        have bO9_2 := hv2; clear hv2
        have bO9_3 := hv3; clear hv3
        refine ⟨⟨bO5_0.1, bO5_7.1, bO5_4.1, bO5_8.1, (e0.cell q24)⟩, ?_⟩
        refine wd_take 17 (.int .i64 0) hR rfl (by kernel_rfl) rfl (by kernel_rfl) (fun w _ => by kernel_rfl) (⟨bO5_0.1, bO5_7.1, bO5_4.1, bO5_8.1, (e0.cell q24)⟩) ?_
        refine wd_end hL hR hK (by kernel_rfl) ?_
        refine qw_then ?_
        refine cw_clean [4, 5] (ws' := [(4, .pointer (some ⟨O9, 0, none⟩)), (5, .int .i64 0)]) (by kernel_rfl) (fun L => ?_)
        refine cw_ret ?_
        refine qw_ret [.agg #[.int .i64 (o.id : Int), .int .i64 (o.sz : Int), .int .i64 (o.fr : Int), .int .i64 ((slN o.sl k.toNat).to : Int)], .int .i64 0] rfl ⟨⟨_, by kernel_rfl, res_ld (ld26 (bO9_0.1) (bO9_1.1) (bO9_2.1) (bO9_3.1))⟩, (by kernel_rfl), trivial⟩ ?_
        have hfb : Mem.freeB o k = true := by unfold Mem.freeB; rw [hb13, hln, show Globe.inB k 0 ((n : Int) - 1) = true from Globe.inB_t.2 ⟨by omega, by omega⟩]; rfl
        exact ⟨show Ending.returned _ = _ by rw [show Mem.freeV o k = Mem.freed o k.toNat by unfold Mem.freeV; rw [hfb]; rfl, show Mem.freeE o k = 0 by unfold Mem.freeE; rw [hfb]; rfl]; rfl, hE⟩
  ·
    refine pl_step rfl (by kernel_rfl) (by kernel_rfl) (by kernel_rfl) (sn_call (f := 50) (args := #[.agg #[.int .i64 (o.id : Int), .int .i64 (o.od : Int), .int .i64 (o.cl : Int), .int .i64 (o.sa : Int), .int .i64 (o.fr : Int), .int .i64 (o.to : Int), .int .i64 (o.lk : Int), .int .i64 (o.sz : Int), .slice a n c]]) (by kernel_rfl) ((rcan_r (o := o) (r := false) _ _ hq e0 hb13).mono ?_))
    rintro e w29 ⟨rfl, hb⟩
    replace e0 := e0.trans hb
    replace hE := hE.trans hb
    replace bO5_0 := BoxAt.ext hb bO5_0
    replace bO5_1 := BoxAt.ext hb bO5_1
    replace bO5_2 := BoxAt.ext hb bO5_2
    replace bO5_3 := BoxAt.ext hb bO5_3
    replace bO5_4 := BoxAt.ext hb bO5_4
    replace bO5_5 := BoxAt.ext hb bO5_5
    replace bO5_6 := BoxAt.ext hb bO5_6
    replace bO5_7 := BoxAt.ext hb bO5_7
    replace bO5_8 := BoxAt.ext hb bO5_8
    replace bO9_0 := BoxAt.ext hb bO9_0
    replace bO9_1 := BoxAt.ext hb bO9_1
    replace bO9_2 := BoxAt.ext hb bO9_2
    replace bO9_3 := BoxAt.ext hb bO9_3
    have hs30 := hb.size
    clear hb
    refine ⟨_, rfl, ?_⟩
    refine pT (.bool true) ?_
    refine pT (.bool true) ?_
    refine pl_skip rfl (by kernel_rfl) (by kernel_rfl) (by kernel_rfl) ?_
    refine pl_skip rfl (by kernel_rfl) (by kernel_rfl) (by kernel_rfl) ?_
    refine pT (.bool true) ?_
    refine pT (.bool true) ?_
    refine pl_skip rfl (by kernel_rfl) (by kernel_rfl) (by kernel_rfl) ?_
    refine pl_skip rfl (by kernel_rfl) (by kernel_rfl) (by kernel_rfl) ?_
    refine pl_skip rfl (by kernel_rfl) (by kernel_rfl) (by kernel_rfl) ?_
    refine pl_skip rfl (by kernel_rfl) (by kernel_rfl) (by kernel_rfl) ?_
    refine pl_skip rfl (by kernel_rfl) (by kernel_rfl) (by kernel_rfl) ?_
    refine pT (.bool true) ?_
    refine pl_nil ?_
    refine qw_then ?_
    refine cw_clean [1, 2, 4, 19] (ws' := [(1, .int .i64 (k : Int)), (2, .pointer (some ⟨O5, 0, none⟩)), (4, .pointer (some ⟨O9, 0, none⟩)), (19, .bool true)]) (by kernel_rfl) (fun L => ?_)
    refine cw_t (by kernel_rfl) ?_
    refine cw_seq ?_
    refine cw_plain ?_
    refine pT (.agg #[.int .i64 0, .int .i64 0, .int .i64 0, .int .i64 0]) ?_
    refine pl_put rfl (by kernel_rfl) (by kernel_rfl) (sn_setK4 (O := O9) (j := 0) (v0 := .int .i64 0) (v1 := .int .i64 0) (v2 := .int .i64 0) (v3 := .int .i64 0) (ex_store (p := .pointer (some ⟨O9, 0, none⟩)) (v := .agg #[.int .i64 0, .int .i64 0, .int .i64 0, .int .i64 0]) rfl (by kernel_rfl) (by kernel_rfl) (st26 bO9_0.1 bO9_0.2 bO9_1.1 bO9_1.2 bO9_2.1 bO9_2.2 bO9_3.1 bO9_3.2)) bO9_0 bO9_1 bO9_2 bO9_3 ?_)
    intro X31 ho hv0 hv1 hv2 hv3 hk
    replace e0 := ho.ext e0 (Nat.le_trans (Nat.le_trans hs0 hs7) (Nat.le_of_eq hzO9))
    replace hE := ho.ext hE (Nat.le_trans hs7 (Nat.le_of_eq hzO9))
    replace bO5_0 := ho.box (Nat.ne_of_gt (Nat.lt_of_lt_of_le lt8 (Nat.le_of_eq hzO9))) bO5_0
    replace bO5_1 := ho.box (Nat.ne_of_gt (Nat.lt_of_lt_of_le lt8 (Nat.le_of_eq hzO9))) bO5_1
    replace bO5_2 := ho.box (Nat.ne_of_gt (Nat.lt_of_lt_of_le lt8 (Nat.le_of_eq hzO9))) bO5_2
    replace bO5_3 := ho.box (Nat.ne_of_gt (Nat.lt_of_lt_of_le lt8 (Nat.le_of_eq hzO9))) bO5_3
    replace bO5_4 := ho.box (Nat.ne_of_gt (Nat.lt_of_lt_of_le lt8 (Nat.le_of_eq hzO9))) bO5_4
    replace bO5_5 := ho.box (Nat.ne_of_gt (Nat.lt_of_lt_of_le lt8 (Nat.le_of_eq hzO9))) bO5_5
    replace bO5_6 := ho.box (Nat.ne_of_gt (Nat.lt_of_lt_of_le lt8 (Nat.le_of_eq hzO9))) bO5_6
    replace bO5_7 := ho.box (Nat.ne_of_gt (Nat.lt_of_lt_of_le lt8 (Nat.le_of_eq hzO9))) bO5_7
    replace bO5_8 := ho.box (Nat.ne_of_gt (Nat.lt_of_lt_of_le lt8 (Nat.le_of_eq hzO9))) bO5_8
    have hs32 : w29.heap.size ≤ X31.heap.size := Nat.le_of_eq ho.size.symm
    clear ho hk bO9_0 bO9_1 bO9_2 bO9_3
    have bO9_0 := hv0; clear hv0
    have bO9_1 := hv1; clear hv1
    have bO9_2 := hv2; clear hv2
    have bO9_3 := hv3; clear hv3
    refine pT (.int .i64 110) ?_
    refine pl_nil ?_
    refine qw_then ?_
    refine cw_ret ?_
    refine qw_then_ret ?_
    refine qw_ret [.agg #[.int .i64 0, .int .i64 0, .int .i64 0, .int .i64 0], .int .i64 110] rfl ⟨⟨_, by kernel_rfl, res_ld (ld26 (bO9_0.1) (bO9_1.1) (bO9_2.1) (bO9_3.1))⟩, (by kernel_rfl), trivial⟩ ?_
    have hfb : Mem.freeB o k = false := by unfold Mem.freeB; rw [hb13]; rfl
    exact ⟨show Ending.returned _ = _ by rw [show Mem.freeV o k = ⟨0, 0, 0, 0⟩ by unfold Mem.freeV; rw [hfb]; rfl, show Mem.freeE o k = 110 by unfold Mem.freeE; rw [hfb]; rfl]; rfl, hE⟩
set_option maxRecDepth 1000000 in
set_option maxHeartbeats 4000000 in
theorem rWorst_c {w0 : World} {a : Option Addr} {n : Nat} {o : Mem.Opt} (c : Nat) (w : World) (h : SlsAt w0 a n o.sl) (e0 : Ext w0 w) : Calls Try.prog 29 #[.agg #[.int .i64 o.id, .int .i64 o.od, .int .i64 o.cl, .int .i64 o.sa, .int .i64 o.fr, .int .i64 o.to, .int .i64 o.lk, .int .i64 o.sz, .slice a n c]] w fun e w' => e = .returned (.tuple #[.agg #[.int .i64 (Mem.freeV o ((o.sl.length : Int) - 1)).im, .int .i64 (Mem.freeV o ((o.sl.length : Int) - 1)).un, .int .i64 (Mem.freeV o ((o.sl.length : Int) - 1)).fr, .int .i64 (Mem.freeV o ((o.sl.length : Int) - 1)).to], .int .i64 (Mem.freeE o ((o.sl.length : Int) - 1))]) ∧ Ext w w' := by
  have hln := h.1; have hmx := h.2.1; have hq := h
  have hs0 := e0.size
  refine calls_cw 12 [(0, .agg #[.int .i64 (o.id : Int), .int .i64 (o.od : Int), .int .i64 (o.cl : Int), .int .i64 (o.sa : Int), .int .i64 (o.fr : Int), .int .i64 (o.to : Int), .int .i64 (o.lk : Int), .int .i64 (o.sz : Int), .slice a n c])] Try.func29 rfl Try.ntmps29 (by kernel_rfl) (by kernel_rfl) (fun L => ?_)
  have hE : Ext w w := Ext.refl w
  refine cw_seq ?_
  refine cw_plain ?_
  refine pl_step rfl (by kernel_rfl) (by kernel_rfl) (by kernel_rfl) (sn_new (us := #[.int .i64 (o.id : Int), .int .i64 (o.od : Int), .int .i64 (o.cl : Int), .int .i64 (o.sa : Int), .int .i64 (o.fr : Int), .int .i64 (o.to : Int), .int .i64 (o.lk : Int), .int .i64 (o.sz : Int), .slice a n c]) (t := 31) (by kernel_rfl) ?_)
  intro O5 X6 hO hOs hb hbx
  have hzO5 := hO; have hyO5 := hOs; clear hO hOs
  have bO5_0 : BoxAt X6 O5 0 (.int .i64 (o.id : Int)) := hbx 0 _ rfl
  have bO5_1 : BoxAt X6 O5 1 (.int .i64 (o.od : Int)) := hbx 1 _ rfl
  have bO5_2 : BoxAt X6 O5 2 (.int .i64 (o.cl : Int)) := hbx 2 _ rfl
  have bO5_3 : BoxAt X6 O5 3 (.int .i64 (o.sa : Int)) := hbx 3 _ rfl
  have bO5_4 : BoxAt X6 O5 4 (.int .i64 (o.fr : Int)) := hbx 4 _ rfl
  have bO5_5 : BoxAt X6 O5 5 (.int .i64 (o.to : Int)) := hbx 5 _ rfl
  have bO5_6 : BoxAt X6 O5 6 (.int .i64 (o.lk : Int)) := hbx 6 _ rfl
  have bO5_7 : BoxAt X6 O5 7 (.int .i64 (o.sz : Int)) := hbx 7 _ rfl
  have bO5_8 : BoxAt X6 O5 8 (.slice a n c) := hbx 8 _ rfl
  clear hbx
  replace e0 := e0.trans hb
  replace hE := hE.trans hb
  have hs7 := hb.size
  clear hb
  have lt8 := bO5_0.lt
  refine pl_step rfl (by kernel_rfl) (by kernel_rfl) (by kernel_rfl) (sn_new (us := #[.int .i64 0, .int .i64 0, .int .i64 0, .int .i64 0]) (t := 26) (by kernel_rfl) ?_)
  intro O9 X10 hO hOs hb hbx
  have hzO9 := hO; have hyO9 := hOs; clear hO hOs
  have bO9_0 : BoxAt X10 O9 0 (.int .i64 0) := hbx 0 _ rfl
  have bO9_1 : BoxAt X10 O9 1 (.int .i64 0) := hbx 1 _ rfl
  have bO9_2 : BoxAt X10 O9 2 (.int .i64 0) := hbx 2 _ rfl
  have bO9_3 : BoxAt X10 O9 3 (.int .i64 0) := hbx 3 _ rfl
  clear hbx
  replace e0 := e0.trans hb
  replace hE := hE.trans hb
  replace bO5_0 := BoxAt.ext hb bO5_0
  replace bO5_1 := BoxAt.ext hb bO5_1
  replace bO5_2 := BoxAt.ext hb bO5_2
  replace bO5_3 := BoxAt.ext hb bO5_3
  replace bO5_4 := BoxAt.ext hb bO5_4
  replace bO5_5 := BoxAt.ext hb bO5_5
  replace bO5_6 := BoxAt.ext hb bO5_6
  replace bO5_7 := BoxAt.ext hb bO5_7
  replace bO5_8 := BoxAt.ext hb bO5_8
  have hs11 := hb.size
  clear hb
  have lt12 := bO9_0.lt
  refine pT (.int .i64 0) ?_
  refine pl_nil ?_
  refine qw_then ?_
  refine cw_seq ?_
  refine cw_plain ?_
  refine pl_take (.agg #[.int .i64 (o.id : Int), .int .i64 (o.od : Int), .int .i64 (o.cl : Int), .int .i64 (o.sa : Int), .int .i64 (o.fr : Int), .int .i64 (o.to : Int), .int .i64 (o.lk : Int), .int .i64 (o.sz : Int), .slice a n c]) rfl (by kernel_rfl) (by kernel_rfl) (by kernel_rfl) (ex_load rfl (by kernel_rfl) (ld31 (bO5_0.1) (bO5_1.1) (bO5_2.1) (bO5_3.1) (bO5_4.1) (bO5_5.1) (bO5_6.1) (bO5_7.1) (bO5_8.1))) ?_
  refine pT (.pointer (some ⟨O5, 8, none⟩)) ?_
  refine pl_take (.slice a n c) rfl (by kernel_rfl) (by kernel_rfl) (by kernel_rfl) (ex_load rfl (by kernel_rfl) (ld29 (bO5_8.1))) ?_
  refine pT (.int .i64 (((n : Nat) : Int) : Int)) ?_
  refine pl_take (.int .i64 ((((n : Nat) : Int)) - 1 : Int)) rfl (by kernel_rfl) (by kernel_rfl) (by kernel_rfl) (ev_wrap (by kernel_rfl) (by omega) (by omega)) ?_
  refine pl_step rfl (by kernel_rfl) (by kernel_rfl) (by kernel_rfl) (sn_call (f := 31) (args := #[.agg #[.int .i64 (o.id : Int), .int .i64 (o.od : Int), .int .i64 (o.cl : Int), .int .i64 (o.sa : Int), .int .i64 (o.fr : Int), .int .i64 (o.to : Int), .int .i64 (o.lk : Int), .int .i64 (o.sz : Int), .slice a n c], .int .i64 ((((n : Nat) : Int)) - 1 : Int)]) (by kernel_rfl) ((rFreed_c (o := o) ((((n : Nat) : Int)) - 1) _ _ hq e0).mono ?_))
  rintro e w13 ⟨rfl, hb⟩
  replace e0 := e0.trans hb
  replace hE := hE.trans hb
  replace bO5_0 := BoxAt.ext hb bO5_0
  replace bO5_1 := BoxAt.ext hb bO5_1
  replace bO5_2 := BoxAt.ext hb bO5_2
  replace bO5_3 := BoxAt.ext hb bO5_3
  replace bO5_4 := BoxAt.ext hb bO5_4
  replace bO5_5 := BoxAt.ext hb bO5_5
  replace bO5_6 := BoxAt.ext hb bO5_6
  replace bO5_7 := BoxAt.ext hb bO5_7
  replace bO5_8 := BoxAt.ext hb bO5_8
  replace bO9_0 := BoxAt.ext hb bO9_0
  replace bO9_1 := BoxAt.ext hb bO9_1
  replace bO9_2 := BoxAt.ext hb bO9_2
  replace bO9_3 := BoxAt.ext hb bO9_3
  have hs14 := hb.size
  clear hb
  refine ⟨_, rfl, ?_⟩
  refine pT (.agg #[.int .i64 ((Mem.freeV o ((((n : Nat) : Int)) - 1)).im : Int), .int .i64 ((Mem.freeV o ((((n : Nat) : Int)) - 1)).un : Int), .int .i64 ((Mem.freeV o ((((n : Nat) : Int)) - 1)).fr : Int), .int .i64 ((Mem.freeV o ((((n : Nat) : Int)) - 1)).to : Int)]) ?_
  refine pT (.int .i64 (Mem.freeE o ((((n : Nat) : Int)) - 1) : Int)) ?_
  refine pl_put rfl (by kernel_rfl) (by kernel_rfl) (sn_setK4 (O := O9) (j := 0) (v0 := .int .i64 ((Mem.freeV o ((((n : Nat) : Int)) - 1)).im : Int)) (v1 := .int .i64 ((Mem.freeV o ((((n : Nat) : Int)) - 1)).un : Int)) (v2 := .int .i64 ((Mem.freeV o ((((n : Nat) : Int)) - 1)).fr : Int)) (v3 := .int .i64 ((Mem.freeV o ((((n : Nat) : Int)) - 1)).to : Int)) (ex_store (p := .pointer (some ⟨O9, 0, none⟩)) (v := .agg #[.int .i64 ((Mem.freeV o ((((n : Nat) : Int)) - 1)).im : Int), .int .i64 ((Mem.freeV o ((((n : Nat) : Int)) - 1)).un : Int), .int .i64 ((Mem.freeV o ((((n : Nat) : Int)) - 1)).fr : Int), .int .i64 ((Mem.freeV o ((((n : Nat) : Int)) - 1)).to : Int)]) rfl (by kernel_rfl) (by kernel_rfl) (st26 bO9_0.1 bO9_0.2 bO9_1.1 bO9_1.2 bO9_2.1 bO9_2.2 bO9_3.1 bO9_3.2)) bO9_0 bO9_1 bO9_2 bO9_3 ?_)
  intro X15 ho hv0 hv1 hv2 hv3 hk
  replace e0 := ho.ext e0 (Nat.le_trans (Nat.le_trans hs0 hs7) (Nat.le_of_eq hzO9))
  replace hE := ho.ext hE (Nat.le_trans hs7 (Nat.le_of_eq hzO9))
  replace bO5_0 := ho.box (Nat.ne_of_gt (Nat.lt_of_lt_of_le lt8 (Nat.le_of_eq hzO9))) bO5_0
  replace bO5_1 := ho.box (Nat.ne_of_gt (Nat.lt_of_lt_of_le lt8 (Nat.le_of_eq hzO9))) bO5_1
  replace bO5_2 := ho.box (Nat.ne_of_gt (Nat.lt_of_lt_of_le lt8 (Nat.le_of_eq hzO9))) bO5_2
  replace bO5_3 := ho.box (Nat.ne_of_gt (Nat.lt_of_lt_of_le lt8 (Nat.le_of_eq hzO9))) bO5_3
  replace bO5_4 := ho.box (Nat.ne_of_gt (Nat.lt_of_lt_of_le lt8 (Nat.le_of_eq hzO9))) bO5_4
  replace bO5_5 := ho.box (Nat.ne_of_gt (Nat.lt_of_lt_of_le lt8 (Nat.le_of_eq hzO9))) bO5_5
  replace bO5_6 := ho.box (Nat.ne_of_gt (Nat.lt_of_lt_of_le lt8 (Nat.le_of_eq hzO9))) bO5_6
  replace bO5_7 := ho.box (Nat.ne_of_gt (Nat.lt_of_lt_of_le lt8 (Nat.le_of_eq hzO9))) bO5_7
  replace bO5_8 := ho.box (Nat.ne_of_gt (Nat.lt_of_lt_of_le lt8 (Nat.le_of_eq hzO9))) bO5_8
  have hs16 : w13.heap.size ≤ X15.heap.size := Nat.le_of_eq ho.size.symm
  clear ho hk bO9_0 bO9_1 bO9_2 bO9_3
  have bO9_0 := hv0; clear hv0
  have bO9_1 := hv1; clear hv1
  have bO9_2 := hv2; clear hv2
  have bO9_3 := hv3; clear hv3
  refine pT (.int .i64 (Mem.freeE o ((((n : Nat) : Int)) - 1) : Int)) ?_
  refine pl_nil ?_
  refine qw_then ?_
  refine cw_ret ?_
  refine qw_ret [.agg #[.int .i64 ((Mem.freeV o ((((n : Nat) : Int)) - 1)).im : Int), .int .i64 ((Mem.freeV o ((((n : Nat) : Int)) - 1)).un : Int), .int .i64 ((Mem.freeV o ((((n : Nat) : Int)) - 1)).fr : Int), .int .i64 ((Mem.freeV o ((((n : Nat) : Int)) - 1)).to : Int)], .int .i64 (Mem.freeE o ((((n : Nat) : Int)) - 1) : Int)] rfl ⟨⟨_, by kernel_rfl, res_ld (ld26 (bO9_0.1) (bO9_1.1) (bO9_2.1) (bO9_3.1))⟩, (by kernel_rfl), trivial⟩ ?_
  rw [hln]; exact ⟨rfl, hE⟩

end Go.Proofs.Ytnbjjddfcondlaa

/- Contracts of the reference of chapter 11: at, Rows. -/
namespace Go.Proofs.Ytnbjjddfcondlaa
open Go.RowKit

namespace Mem
theorem alTo_mem {l : List St} {t : Int} {i j : Nat} (h : j ∈ alTo l t i) : j < i := by
  have := (List.mem_filter.1 h).1
  exact List.mem_range.1 this
theorem al_bits {l : List St} {t : Int} {i : Nat} (hi : i ≤ 24) : bitsOf (alTo l t i) < 16777216 := by
  refine Nat.lt_of_lt_of_le (bits_lt (n := i) fun j hj => alTo_mem hj) ?_
  exact Nat.pow_le_pow_right (n := 2) (by decide) hi
theorem alive_bits {l : List St} {t : Int} (hl : l.length ≤ 24) : bitsOf (alive l t) < 16777216 := by
  refine Nat.lt_of_lt_of_le (bits_lt (n := l.length) fun j hj => ?_) (Nat.pow_le_pow_right (n := 2) (by decide) hl)
  obtain ⟨x, hx, _⟩ := mem_alive.1 hj
  exact (List.getElem?_eq_some_iff.1 hx).1
/-- The least begin after last, among the first images. -/
def Nxt (l : List St) (i : Nat) (last t : Int) : Prop := (t = -1 ∧ ∀ x ∈ l.take i, x.fr ≤ last) ∨ (last < t ∧ (∃ x ∈ l.take i, x.fr = t) ∧ ∀ x ∈ l.take i, last < x.fr → t ≤ x.fr)
theorem Nxt.zero (l : List St) (last : Int) : Nxt l 0 last (-1) := .inl ⟨rfl, fun x hx => by rw [List.take_zero] at hx; cases hx⟩
theorem mem_snoc {l : List St} {i : Nat} {x : St} (hi : i < l.length) (h : x ∈ l.take (i + 1)) : x ∈ l.take i ∨ x = stN l i := by
  rw [stN_take hi, List.mem_append, List.mem_singleton] at h; exact h
theorem Nxt.y {l : List St} {i : Nat} {last t : Int} (h : Nxt l i last t) (hi : i < l.length) (h1 : last < (stN l i).fr) (h2 : t < 0 ∨ (stN l i).fr < t) (h0 : -1 ≤ last) : Nxt l (i + 1) last (stN l i).fr := by
  refine .inr ⟨h1, ⟨stN l i, by rw [stN_take hi]; simp, rfl⟩, fun x hx hl => ?_⟩
  rcases mem_snoc hi hx with hx | rfl
  · rcases h with ⟨_, h⟩ | ⟨h3, _, h⟩
    · have := h x hx; omega
    · have := h x hx hl; omega
  · exact Int.le_refl _
theorem Nxt.n {l : List St} {i : Nat} {last t : Int} (h : Nxt l i last t) (hi : i < l.length) (hc : ¬ (last < (stN l i).fr ∧ (t < 0 ∨ (stN l i).fr < t))) : Nxt l (i + 1) last t := by
  rcases h with ⟨rfl, h⟩ | ⟨h3, ⟨y, hy, e⟩, h⟩
  · refine .inl ⟨rfl, fun x hx => ?_⟩
    rcases mem_snoc hi hx with hx | rfl
    · exact h x hx
    · omega
  · refine .inr ⟨h3, ⟨y, by rw [stN_take hi]; simp [hy], e⟩, fun x hx hl => ?_⟩
    rcases mem_snoc hi hx with hx | rfl
    · exact h x hx hl
    · omega
def lastB (l : List St) (p : Nat) : Int := if p = 0 then -1 else begN l (p - 1)
theorem begN_asc {l : List St} {i j : Nat} (hij : i < j) (hj : j < (begs l).length) : begN l i < begN l j := by
  have h1 := List.pairwise_iff_getElem.1 (begs_asc l) i j (by omega) hj hij
  have e1 := begN_at (l := l) (j := i) (by omega)
  have e2 := begN_at hj
  rw [List.getElem?_eq_getElem (by omega)] at e1
  rw [List.getElem?_eq_getElem hj] at e2
  rw [← Option.some.inj e1, ← Option.some.inj e2]; exact h1
theorem begN_mem {l : List St} {j : Nat} (h : j < (begs l).length) : begN l j ∈ begs l := List.mem_of_getElem? (begN_at h)
theorem lastB_lt {l : List St} (hf : ∀ x ∈ l, 0 ≤ x.fr) {p q : Nat} (hq : q < (begs l).length) : lastB l p < begN l q ↔ p ≤ q ∨ (begs l).length ≤ p - 1 ∧ lastB l p < begN l q := by
  constructor
  · intro h
    rcases Nat.lt_or_ge q p with k | k
    · right
      refine ⟨?_, h⟩
      rcases Nat.lt_or_ge (p - 1) (begs l).length with m | m
      · unfold lastB at h
        rw [if_neg (by omega)] at h
        rcases Nat.eq_or_lt_of_le (show q ≤ p - 1 by omega) with e | e
        · rw [e] at h; omega
        · have := begN_asc e m; omega
      · exact m
    · exact .inl k
  · rintro (h | h)
    · unfold lastB
      split
      · obtain ⟨x, hx, e⟩ := mem_begs.1 (begN_mem hq)
        have := hf x hx; omega
      · exact begN_asc (by omega) hq
    · exact h.2
theorem next_beg {l : List St} (hf : ∀ x ∈ l, 0 ≤ x.fr) {p i : Nat} {t : Int} (hp : p ≤ (begs l).length) (hi : l.length ≤ i) (h : Nxt l i (lastB l p) t) : (p < (begs l).length → t = begN l p) ∧ (p = (begs l).length → t = -1) := by
  unfold Nxt at h
  rw [List.take_of_length_le hi] at h
  have hx : ∀ x ∈ l, ∃ q, q < (begs l).length ∧ x.fr = begN l q := fun x hx => by
    obtain ⟨q, hq⟩ := List.getElem?_of_mem (mem_begs.2 ⟨x, hx, rfl⟩)
    have hl := (List.getElem?_eq_some_iff.1 hq).1
    rw [begN_at hl] at hq
    exact ⟨q, hl, (Option.some.inj hq).symm⟩
  constructor
  · intro hlt
    obtain ⟨y, hy, ey⟩ := mem_begs.1 (begN_mem hlt)
    have hly : lastB l p < begN l p := (lastB_lt hf hlt).2 (.inl (Nat.le_refl _))
    rcases h with ⟨_, h⟩ | ⟨h1, ⟨x, hx1, e⟩, h⟩
    · have := h y hy; omega
    · have h2 := h y hy (by omega)
      obtain ⟨q, hq, eq⟩ := hx x hx1
      rw [← e, eq] at h1
      rcases (lastB_lt hf hq).1 h1 with k | k
      · rcases Nat.eq_or_lt_of_le k with rfl | k
        · omega
        · have := begN_asc k hq; omega
      · omega
  · rintro rfl
    rcases h with ⟨e, _⟩ | ⟨h1, ⟨x, hx1, e⟩, h⟩
    · exact e
    · obtain ⟨q, hq, eq⟩ := hx x hx1
      rw [← e, eq] at h1
      rcases (lastB_lt hf hq).1 h1 with k | k <;> omega
def gU (l : List St) (t : Int) (i : Nat) : Bool := (l.take i).all fun x => !(decide (bitsOf (alive l x.fr) ≠ bitsOf (alive l t)) && decide (bitsOf (alive l x.fr) &&& bitsOf (alive l t) = bitsOf (alive l t)))
theorem gU_next {l : List St} {t : Int} {i : Nat} (hi : i < l.length) : gU l t (i + 1) = (gU l t i && !(decide (bitsOf (alive l (stN l i).fr) ≠ bitsOf (alive l t)) && decide (bitsOf (alive l (stN l i).fr) &&& bitsOf (alive l t) = bitsOf (alive l t)))) := by
  unfold gU; rw [stN_take hi, List.all_append, List.all_cons, List.all_nil, Bool.and_true]
theorem gU_all {l : List St} {t : Int} {i : Nat} (hi : l.length ≤ i) : gU l t i = maxAt l t := by
  unfold gU
  rw [List.take_of_length_le hi, Bool.eq_iff_iff, maxAt_bits, List.all_eq_true]
  constructor
  · intro h x hx k
    have := h x hx
    simp [k.1, k.2] at this
  · intro h x hx
    rw [Bool.not_eq_true', Bool.and_eq_false_iff]
    have := h x hx
    by_cases k : bitsOf (alive l x.fr) ≠ bitsOf (alive l t)
    · right; exact decide_eq_false fun e => this ⟨k, e⟩
    · left; exact decide_eq_false k
theorem bit_at {l : List St} {t : Int} {i : Nat} : bitsOf (alive l t) / 2 ^ i % 2 = 1 ↔ i ∈ alive l t := by
  have h := testBit_bits (alive l t) i
  rw [Nat.testBit_eq_decide_div_mod_eq] at h
  constructor
  · intro k; rw [decide_eq_true k] at h; exact of_decide_eq_true h.symm
  · intro k; rw [decide_eq_true k] at h; exact of_decide_eq_true h
def rowU (l : List St) (t : Int) (i : Nat) : List Nat := (List.range i).filter (atB l t)
theorem rowU_y {l : List St} {t : Int} {i : Nat} (h : i ∈ alive l t) : rowU l t (i + 1) = rowU l t i ++ [i] := by
  unfold rowU; rw [List.range_succ, List.filter_append]
  have := (List.mem_filter.1 h).2
  simp [this]
theorem rowU_n {l : List St} {t : Int} {i : Nat} (hi : i < l.length) (h : i ∉ alive l t) : rowU l t (i + 1) = rowU l t i := by
  unfold rowU; rw [List.range_succ, List.filter_append]
  have : atB l t i = false := Bool.eq_false_iff.2 fun k => h (List.mem_filter.2 ⟨List.mem_range.2 hi, k⟩)
  simp [this]
def outU (l : List St) (p : Nat) : List (List Nat) := (((begs l).take p).filter (maxAt l)).map (alive l)
theorem outU_y {l : List St} {p : Nat} (hp : p < (begs l).length) (h : maxAt l (begN l p) = true) : outU l (p + 1) = outU l p ++ [alive l (begN l p)] := by
  unfold outU; rw [List.take_add_one, begN_at hp, List.filter_append, List.map_append]; simp [h]
theorem outU_n {l : List St} {p : Nat} (hp : p < (begs l).length) (h : maxAt l (begN l p) = false) : outU l (p + 1) = outU l p := by
  unfold outU; rw [List.take_add_one, begN_at hp, List.filter_append, List.map_append]; simp [h]
theorem outU_all {l : List St} {p : Nat} (hp : p = (begs l).length) : outU l p = rowsR l := by
  unfold outU; rw [rows_eq, List.take_of_length_le (by omega)]
theorem outU_len (l : List St) (p : Nat) : (outU l p).length ≤ (begs l).length := by
  unfold outU
  have h := List.length_filter_le (maxAt l) ((begs l).take p)
  rw [List.length_map]; rw [List.length_take] at h; omega
end Mem
set_option maxRecDepth 1000000 in
set_option maxHeartbeats 4000000 in
theorem rat_c {w0 : World} {a : Option Addr} {n : Nat} {l : List Mem.St} (t : Int) (c : Nat) (w : World) (h : StsAt w0 a n l) (e0 : Ext w0 w) (hok : Mem.okL l = true) : Calls Try.prog 44 #[.slice a n c, .int .i64 t] w fun e w' => e = .returned (.int .i64 (Mem.bitsOf (Mem.alive l t) : Nat)) ∧ Ext w w' := by
  have hln := h.1; have hmx := h.2.1
  have hs0 := e0.size
  obtain ⟨bs, os, ha, hbl, hx⟩ := h.parts
  have hl24 := Mem.okL_len hok
  refine calls_cw 36 [(1, .int .i64 (t : Int)), (0, .slice a n c)] Try.func44 rfl Try.ntmps44 (by kernel_rfl) (by kernel_rfl) (fun L => ?_)
  have hE : Ext w w := Ext.refl w
  refine cw_seq ?_
  refine cw_plain ?_
  refine pT (.int .i64 0) ?_
  refine pl_nil ?_
  refine qw_then ?_
  refine cw_seq ?_
  refine cw_plain ?_
  refine pT (.int .i64 0) ?_
  refine pl_nil ?_
  refine qw_then ?_
  refine cw_seq ?_
  refine cw_seq ?_
  refine cw_plain ?_
  refine pT (.int .i64 0) ?_
  refine pl_nil ?_
  refine qw_then ?_
  refine cw_block ?_
  refine cw_loop [0, 1, 5, 6] (fun ws' wr m => ∃ i : Nat, ∃ sb : Nat, ws' = [(0, .slice a n c), (1, .int .i64 (t : Int)), (5, .int .i64 (((sb : Nat) : Int) : Int)), (6, .int .i64 (((i : Nat) : Int) : Int))] ∧ m = n - i ∧ w.heap.size ≤ wr.heap.size ∧ Ext w0 wr ∧ Ext w wr ∧ i ≤ n ∧ sb = Mem.bitsOf (Mem.alTo l t i)) (ws0 := [(0, .slice a n c), (1, .int .i64 (t : Int)), (5, .int .i64 0), (6, .int .i64 0)]) (by kernel_rfl) _ ⟨0, 0, rfl, rfl, Nat.le_refl _, e0, hE, Nat.zero_le _, rfl⟩ ?_
  clear e0 hE
  rintro m7 L ws w6 ⟨i, sb, rfl, rfl, hs5, e0, hE, hi, hsb⟩
  by_cases hlt : i < n
  ·
    obtain rfl := ha (by omega)
    obtain ⟨q8, q9, q10, q11⟩ := hx i hlt
    have hab := Mem.al_bits (l := l) (t := t) (show i ≤ 24 by omega)
    rw [← hsb] at hab
    refine cw_seq ?_
    refine cw_seq ?_
    refine cw_plain ?_
    refine pT (.int .i64 (((i : Nat) : Int) : Int)) ?_
    refine pT (.slice (some ⟨bs, os, none⟩) n c) ?_
    refine pT (.int .i64 (((n : Nat) : Int) : Int)) ?_
    refine pl_take (.bool true) rfl (by kernel_rfl) (by kernel_rfl) (by kernel_rfl) (ev_dec (show _ = Result.ok (Next.value (Value.bool (decide ((((i : Nat) : Int) : Int) < (((n : Nat) : Int) : Int))))) _ from by kernel_rfl) (by omega)) ?_
    refine pl_nil ?_
    refine qw_then ?_
    refine cw_t (by kernel_rfl) ?_
    refine cw_skip ?_
    refine qw_then ?_
    refine cw_seq ?_
    refine cw_block ?_
    refine cw_seq ?_
    refine cw_plain ?_
    refine pT (.slice (some ⟨bs, os, none⟩) n c) ?_
    refine pT (.int .i64 (((i : Nat) : Int) : Int)) ?_
    refine pl_take (.pointer (some ⟨bs, os + i * 4, none⟩)) rfl (by kernel_rfl) (by kernel_rfl) (by kernel_rfl) (ex_index (p := .slice (some ⟨bs, os, none⟩) n c) (i := .int .i64 ((i : Nat) : Int)) rfl (by kernel_rfl) (by kernel_rfl) (ix27 (k := i) (by omega))) ?_
    refine pT (.pointer (some ⟨bs, os + i * 4 + 2, none⟩)) ?_
    refine pT (.pointer (some ⟨bs, os + i * 4 + 2, none⟩)) ?_
    refine pl_take (.int .i64 ((stN l i).fr : Int)) rfl (by kernel_rfl) (by kernel_rfl) (by kernel_rfl) (ex_load rfl (by kernel_rfl) (ld3 ((e0.cell q10)))) ?_
    refine pT (.int .i64 (t : Int)) ?_
    by_cases hc12 : ((stN l i).fr : Int) ≤ (t : Int)
    ·
      refine pl_take (.bool true) rfl (by kernel_rfl) (by kernel_rfl) (by kernel_rfl) (ev_dec (show _ = Result.ok (Next.value (Value.bool (decide (((stN l i).fr : Int) ≤ (t : Int))))) _ from by kernel_rfl) (hc12)) ?_
      refine pT (.bool true) ?_
      refine pT (.int .i64 (t : Int)) ?_
      refine pT (.slice (some ⟨bs, os, none⟩) n c) ?_
      refine pT (.int .i64 (((i : Nat) : Int) : Int)) ?_
      refine pl_take (.pointer (some ⟨bs, os + i * 4, none⟩)) rfl (by kernel_rfl) (by kernel_rfl) (by kernel_rfl) (ex_index (p := .slice (some ⟨bs, os, none⟩) n c) (i := .int .i64 ((i : Nat) : Int)) rfl (by kernel_rfl) (by kernel_rfl) (ix27 (k := i) (by omega))) ?_
      refine pT (.pointer (some ⟨bs, os + i * 4 + 2, none⟩)) ?_
      refine pT (.pointer (some ⟨bs, os + i * 4 + 2 + 1, none⟩)) ?_
      refine pl_take (.int .i64 ((stN l i).to : Int)) rfl (by kernel_rfl) (by kernel_rfl) (by kernel_rfl) (ex_load rfl (by kernel_rfl) (ld3 ((e0.cell q11)))) ?_
      by_cases hc13 : (t : Int) < ((stN l i).to : Int)
      ·
        refine pl_take (.bool true) rfl (by kernel_rfl) (by kernel_rfl) (by kernel_rfl) (ev_dec (show _ = Result.ok (Next.value (Value.bool (decide ((t : Int) < ((stN l i).to : Int))))) _ from by kernel_rfl) (hc13)) ?_
        refine pT (.bool true) ?_
        refine pl_nil ?_
        refine qw_then ?_
        refine cw_clean [0, 1, 5, 6, 30] (ws' := [(0, .slice (some ⟨bs, os, none⟩) n c), (1, .int .i64 (t : Int)), (5, .int .i64 (((sb : Nat) : Int) : Int)), (6, .int .i64 (((i : Nat) : Int) : Int)), (30, .bool true)]) (by kernel_rfl) (fun L => ?_)
        refine cw_t (by kernel_rfl) ?_
        refine cw_plain ?_
        refine pT (.int .i64 (((sb : Nat) : Int) : Int)) ?_
        refine pT (.int .i64 (((i : Nat) : Int) : Int)) ?_
        refine pl_take (.int .i64 (((2 ^ i : Nat) : Int) : Int)) rfl (by kernel_rfl) (by kernel_rfl) (by kernel_rfl) (ex_bin rfl (by kernel_rfl) (by kernel_rfl) (bin_shl1 (by omega))) ?_
        refine pl_take (.int .i64 (((sb ||| (2 ^ i) : Nat) : Int) : Int)) rfl (by kernel_rfl) (by kernel_rfl) (by kernel_rfl) (ev_int (show _ = Result.ok (Next.value (Value.int .i64 (bits .or .i64 ((sb : Nat) : Int) ((2 ^ i : Nat) : Int)))) _ from by kernel_rfl) (or_i64 _ _ (by omega) (by have : 2 ^ i < 2 ^ 48 := Nat.pow_lt_pow_right (by decide) (by omega); omega))) ?_
        refine pT (.int .i64 (((sb ||| (2 ^ i) : Nat) : Int) : Int)) ?_
        refine pl_nil ?_
        refine qw_block ?_
        refine qw_then ?_
        refine cw_plain ?_
        refine pT (.int .i64 (((i : Nat) : Int) : Int)) ?_
        refine pl_take (.int .i64 (((i + 1 : Nat) : Int) : Int)) rfl (by kernel_rfl) (by kernel_rfl) (by kernel_rfl) (ev_wrap (by kernel_rfl) (by omega) (by omega)) ?_
        refine pT (.int .i64 (((i + 1 : Nat) : Int) : Int)) ?_
        refine pl_nil ?_
        refine qw_round [0, 1, 5, 6] (ws' := [(0, .slice (some ⟨bs, os, none⟩) n c), (1, .int .i64 (t : Int)), (5, .int .i64 (((sb ||| (2 ^ i) : Nat) : Int) : Int)), (6, .int .i64 (((i + 1 : Nat) : Int) : Int))]) (by kernel_rfl) _ ?_ ⟨(i + 1), sb ||| (2 ^ i), rfl, rfl, hs5, e0, hE, by omega, (by rw [Mem.alTo_y (by omega) (by omega) (by omega), Mem.bitsOf_snoc, ← hsb])⟩
        omega
      ·
        refine pl_take (.bool false) rfl (by kernel_rfl) (by kernel_rfl) (by kernel_rfl) (ev_ndec (show _ = Result.ok (Next.value (Value.bool (decide ((t : Int) < ((stN l i).to : Int))))) _ from by kernel_rfl) (hc13)) ?_
        refine pT (.bool false) ?_
        refine pl_nil ?_
        refine qw_then ?_
        refine cw_clean [0, 1, 5, 6, 30] (ws' := [(0, .slice (some ⟨bs, os, none⟩) n c), (1, .int .i64 (t : Int)), (5, .int .i64 (((sb : Nat) : Int) : Int)), (6, .int .i64 (((i : Nat) : Int) : Int)), (30, .bool false)]) (by kernel_rfl) (fun L => ?_)
        refine cw_f (by kernel_rfl) ?_
        refine cw_skip ?_
        refine qw_block ?_
        refine qw_then ?_
        refine cw_plain ?_
        refine pT (.int .i64 (((i : Nat) : Int) : Int)) ?_
        refine pl_take (.int .i64 (((i + 1 : Nat) : Int) : Int)) rfl (by kernel_rfl) (by kernel_rfl) (by kernel_rfl) (ev_wrap (by kernel_rfl) (by omega) (by omega)) ?_
        refine pT (.int .i64 (((i + 1 : Nat) : Int) : Int)) ?_
        refine pl_nil ?_
        refine qw_round [0, 1, 5, 6] (ws' := [(0, .slice (some ⟨bs, os, none⟩) n c), (1, .int .i64 (t : Int)), (5, .int .i64 (((sb : Nat) : Int) : Int)), (6, .int .i64 (((i + 1 : Nat) : Int) : Int))]) (by kernel_rfl) _ ?_ ⟨(i + 1), sb, rfl, rfl, hs5, e0, hE, by omega, (by rw [Mem.alTo_n (by omega) (by omega)]; exact hsb)⟩
        omega
    ·
      refine pl_take (.bool false) rfl (by kernel_rfl) (by kernel_rfl) (by kernel_rfl) (ev_ndec (show _ = Result.ok (Next.value (Value.bool (decide (((stN l i).fr : Int) ≤ (t : Int))))) _ from by kernel_rfl) (hc12)) ?_
      refine pT (.bool false) ?_
      refine pl_skip rfl (by kernel_rfl) (by kernel_rfl) (by kernel_rfl) ?_
      refine pl_skip rfl (by kernel_rfl) (by kernel_rfl) (by kernel_rfl) ?_
      refine pl_skip rfl (by kernel_rfl) (by kernel_rfl) (by kernel_rfl) ?_
      refine pl_skip rfl (by kernel_rfl) (by kernel_rfl) (by kernel_rfl) ?_
      refine pl_skip rfl (by kernel_rfl) (by kernel_rfl) (by kernel_rfl) ?_
      refine pl_skip rfl (by kernel_rfl) (by kernel_rfl) (by kernel_rfl) ?_
      refine pl_skip rfl (by kernel_rfl) (by kernel_rfl) (by kernel_rfl) ?_
      refine pl_skip rfl (by kernel_rfl) (by kernel_rfl) (by kernel_rfl) ?_
      refine pT (.bool false) ?_
      refine pl_nil ?_
      refine qw_then ?_
      refine cw_clean [0, 1, 5, 6, 30] (ws' := [(0, .slice (some ⟨bs, os, none⟩) n c), (1, .int .i64 (t : Int)), (5, .int .i64 (((sb : Nat) : Int) : Int)), (6, .int .i64 (((i : Nat) : Int) : Int)), (30, .bool false)]) (by kernel_rfl) (fun L => ?_)
      refine cw_f (by kernel_rfl) ?_
      refine cw_skip ?_
      refine qw_block ?_
      refine qw_then ?_
      refine cw_plain ?_
      refine pT (.int .i64 (((i : Nat) : Int) : Int)) ?_
      refine pl_take (.int .i64 (((i + 1 : Nat) : Int) : Int)) rfl (by kernel_rfl) (by kernel_rfl) (by kernel_rfl) (ev_wrap (by kernel_rfl) (by omega) (by omega)) ?_
      refine pT (.int .i64 (((i + 1 : Nat) : Int) : Int)) ?_
      refine pl_nil ?_
      refine qw_round [0, 1, 5, 6] (ws' := [(0, .slice (some ⟨bs, os, none⟩) n c), (1, .int .i64 (t : Int)), (5, .int .i64 (((sb : Nat) : Int) : Int)), (6, .int .i64 (((i + 1 : Nat) : Int) : Int))]) (by kernel_rfl) _ ?_ ⟨(i + 1), sb, rfl, rfl, hs5, e0, hE, by omega, (by rw [Mem.alTo_n (by omega) (by omega)]; exact hsb)⟩
      omega
  ·
    have hv9 : sb = Mem.bitsOf (Mem.alive l t) := by rw [hsb, show i = n by omega, ← hln]; rfl
    refine cw_seq ?_
    refine cw_seq ?_
    refine cw_plain ?_
    refine pT (.int .i64 (((i : Nat) : Int) : Int)) ?_
    refine pT (.slice a n c) ?_
    refine pT (.int .i64 (((n : Nat) : Int) : Int)) ?_
    refine pl_take (.bool false) rfl (by kernel_rfl) (by kernel_rfl) (by kernel_rfl) (ev_ndec (show _ = Result.ok (Next.value (Value.bool (decide ((((i : Nat) : Int) : Int) < (((n : Nat) : Int) : Int))))) _ from by kernel_rfl) (by omega)) ?_
    refine pl_nil ?_
    refine qw_then ?_
    refine cw_f (by kernel_rfl) ?_
    refine cw_exit ?_
    refine qw_then_exit ?_
    refine qw_then_exit ?_
    refine qw_block_out ?_
    refine qw_then ?_
    refine cw_seq ?_
    refine cw_plain ?_
    refine pT (.int .i64 (((sb : Nat) : Int) : Int)) ?_
    refine pT (.int .i64 (((sb : Nat) : Int) : Int)) ?_
    refine pl_nil ?_
    refine qw_then ?_
    refine cw_ret ?_
    refine qw_ret [.int .i64 (((sb : Nat) : Int) : Int)] rfl ⟨(by kernel_rfl), trivial⟩ ?_
    rw [← hv9]; exact ⟨rfl, hE⟩
set_option maxRecDepth 1000000 in
set_option maxHeartbeats 4000000 in
theorem rRows_c {w0 : World} {a : Option Addr} {n : Nat} {l : List Mem.St} (c : Nat) (w : World) (h : StsAt w0 a n l) (e0 : Ext w0 w) : Calls Try.prog 16 #[.slice a n c] w (RowsRet w (Mem.rowsU l) (Mem.ansE (Mem.okL l))) := by
  have hln := h.1; have hmx := h.2.1
  have hs0 := e0.size
  obtain ⟨bs, os, ha, hbl, hx⟩ := h.parts
  refine calls_cw 103 [(0, .slice a n c)] Try.func16 rfl Try.ntmps16 (by kernel_rfl) (by kernel_rfl) (fun L => ?_)
  have hE : Ext w w := Ext.refl w
  refine cw_seq ?_
  refine cw_plain ?_
  refine pT (.slice none 0 0) ?_
  refine pT (.int .i64 0) ?_
  refine pl_nil ?_
  refine qw_then ?_
  refine cw_seq ?_
  refine cw_seq ?_
  refine cw_plain ?_
  refine pT (.slice a n c) ?_
  rcases Bool.eq_false_or_eq_true (Mem.okL l) with hb5 | hb5
  ·
    refine pl_step rfl (by kernel_rfl) (by kernel_rfl) (by kernel_rfl) (sn_call (f := 19) (args := #[.slice a n c]) (by kernel_rfl) ((rValid_r (l := l) (r := true) _ _ h e0 hb5).mono ?_))
    rintro e w6 ⟨rfl, hb⟩
    replace e0 := e0.trans hb
    replace hE := hE.trans hb
    have hs7 := hb.size
    clear hb
    refine ⟨_, rfl, ?_⟩
    refine pT (.bool false) ?_
    refine pl_nil ?_
    refine qw_then ?_
    refine cw_f (by kernel_rfl) ?_
    refine cw_skip ?_
    refine qw_then ?_
    refine cw_seq ?_
    have hok9 := hb5
    have hl24 := Mem.okL_len hok9; have hu := Mem.okL_u hok9; have hf := Mem.okL_f hok9; have hbl := Mem.begs_len l
    refine cw_plain ?_
    refine pT (.slice none 0 0) ?_
    refine pl_nil ?_
    refine qw_then ?_
    refine cw_seq ?_
    refine cw_plain ?_
    refine pT (.int .i64 (-1 : Int)) ?_
    refine pl_nil ?_
    refine qw_then ?_
    refine cw_block ?_
    refine cw_loop [0, 4, 5] (fun ws' wr m => ∃ p : Nat, ∃ la : Int, ∃ aO : Option Addr, ∃ kk : Nat, ∃ cO : Nat, ws' = [(0, .slice a n c), (4, .slice aO kk cO), (5, .int .i64 (la : Int))] ∧ m = (Mem.begs l).length - p ∧ w6.heap.size ≤ wr.heap.size ∧ Ext w0 wr ∧ Ext w wr ∧ OwnL ((freshR w6.heap.size setR)) w6.heap.size 56 1 (.slice aO kk cO) wr (Mem.outU l p) ∧ p ≤ (Mem.begs l).length ∧ (Mem.outU l p).length = kk ∧ la = Mem.lastB l p) (ws0 := [(0, .slice a n c), (4, .slice none 0 0), (5, .int .i64 (-1 : Int))]) (by kernel_rfl) _ ⟨0, -1, none, 0, 0, rfl, rfl, Nat.le_refl _, e0, hE, (by unfold Mem.outU; rw [List.take_zero]; exact OwnL.nil _ _ _ _ _), Nat.zero_le _, (by unfold Mem.outU; rw [List.take_zero]; rfl), rfl⟩ ?_
    clear e0 hE
    rintro m10 L ws w9 ⟨p, la, aO, kk, cO, rfl, rfl, hs8, e0, hE, os9, hpl, hsl9, hla⟩
    have hX11 : Ext w9 w9 := Ext.refl _
    refine cw_block ?_
    refine cw_seq ?_
    have hla1 : -1 ≤ la := by
      rw [hla]; unfold Mem.lastB
      split
      · omega
      · obtain ⟨x, hx, e⟩ := Mem.mem_begs.1 (Mem.begN_mem (l := l) (j := p - 1) (by omega))
        have := hf x hx; omega
    refine cw_plain ?_
    refine pT (.int .i64 (-1 : Int)) ?_
    refine pl_nil ?_
    refine qw_then ?_
    refine cw_seq ?_
    refine cw_seq ?_
    refine cw_plain ?_
    refine pT (.int .i64 0) ?_
    refine pl_nil ?_
    refine qw_then ?_
    refine cw_block ?_
    refine cw_loop [0, 4, 5, 6, 7] (fun ws' wr m => ∃ i : Nat, ∃ t7 : Int, ws' = [(0, .slice a n c), (4, .slice aO kk cO), (5, .int .i64 (la : Int)), (6, .int .i64 (t7 : Int)), (7, .int .i64 (((i : Nat) : Int) : Int))] ∧ m = n - i ∧ w9.heap.size ≤ wr.heap.size ∧ Ext w0 wr ∧ Ext w wr ∧ Ext w9 wr ∧ i ≤ n ∧ Mem.Nxt l i la t7) (ws0 := [(0, .slice a n c), (4, .slice aO kk cO), (5, .int .i64 (la : Int)), (6, .int .i64 (-1 : Int)), (7, .int .i64 0)]) (by kernel_rfl) _ ⟨0, -1, rfl, rfl, Nat.le_refl _, e0, hE, hX11, Nat.zero_le _, Mem.Nxt.zero _ _⟩ ?_
    clear e0 hE hX11
    rintro m14 L ws w13 ⟨i, t7, rfl, rfl, hs12, e0, hE, hX11, hi, hnx⟩
    by_cases hlt : i < n
    ·
      obtain rfl := ha (by omega)
      obtain ⟨q15, q16, q17, q18⟩ := hx i hlt
      refine cw_seq ?_
      refine cw_seq ?_
      refine cw_plain ?_
      refine pT (.int .i64 (((i : Nat) : Int) : Int)) ?_
      refine pT (.slice (some ⟨bs, os, none⟩) n c) ?_
      refine pT (.int .i64 (((n : Nat) : Int) : Int)) ?_
      refine pl_take (.bool true) rfl (by kernel_rfl) (by kernel_rfl) (by kernel_rfl) (ev_dec (show _ = Result.ok (Next.value (Value.bool (decide ((((i : Nat) : Int) : Int) < (((n : Nat) : Int) : Int))))) _ from by kernel_rfl) (by omega)) ?_
      refine pl_nil ?_
      refine qw_then ?_
      refine cw_t (by kernel_rfl) ?_
      refine cw_skip ?_
      refine qw_then ?_
      refine cw_seq ?_
      refine cw_block ?_
      refine cw_seq ?_
      refine cw_plain ?_
      refine pT (.slice (some ⟨bs, os, none⟩) n c) ?_
      refine pT (.int .i64 (((i : Nat) : Int) : Int)) ?_
      refine pl_take (.pointer (some ⟨bs, os + i * 4, none⟩)) rfl (by kernel_rfl) (by kernel_rfl) (by kernel_rfl) (ex_index (p := .slice (some ⟨bs, os, none⟩) n c) (i := .int .i64 ((i : Nat) : Int)) rfl (by kernel_rfl) (by kernel_rfl) (ix27 (k := i) (by omega))) ?_
      refine pT (.pointer (some ⟨bs, os + i * 4 + 2, none⟩)) ?_
      refine pT (.pointer (some ⟨bs, os + i * 4 + 2, none⟩)) ?_
      refine pl_take (.int .i64 ((stN l i).fr : Int)) rfl (by kernel_rfl) (by kernel_rfl) (by kernel_rfl) (ex_load rfl (by kernel_rfl) (ld3 ((e0.cell q17)))) ?_
      refine pT (.int .i64 (la : Int)) ?_
      by_cases hc19 : ((stN l i).fr : Int) > (la : Int)
      ·
        refine pl_take (.bool true) rfl (by kernel_rfl) (by kernel_rfl) (by kernel_rfl) (ev_dec (show _ = Result.ok (Next.value (Value.bool (decide (((stN l i).fr : Int) > (la : Int))))) _ from by kernel_rfl) (hc19)) ?_
        refine pT (.bool true) ?_
        refine pT (.int .i64 (t7 : Int)) ?_
        by_cases hc20 : (t7 : Int) < (0 : Int)
        ·
          refine pl_take (.bool true) rfl (by kernel_rfl) (by kernel_rfl) (by kernel_rfl) (ev_dec (show _ = Result.ok (Next.value (Value.bool (decide ((t7 : Int) < (0 : Int))))) _ from by kernel_rfl) (hc20)) ?_
          refine pT (.bool true) ?_
          refine pl_skip rfl (by kernel_rfl) (by kernel_rfl) (by kernel_rfl) ?_
          refine pl_skip rfl (by kernel_rfl) (by kernel_rfl) (by kernel_rfl) ?_
          refine pl_skip rfl (by kernel_rfl) (by kernel_rfl) (by kernel_rfl) ?_
          refine pl_skip rfl (by kernel_rfl) (by kernel_rfl) (by kernel_rfl) ?_
          refine pl_skip rfl (by kernel_rfl) (by kernel_rfl) (by kernel_rfl) ?_
          refine pl_skip rfl (by kernel_rfl) (by kernel_rfl) (by kernel_rfl) ?_
          refine pl_skip rfl (by kernel_rfl) (by kernel_rfl) (by kernel_rfl) ?_
          refine pl_skip rfl (by kernel_rfl) (by kernel_rfl) (by kernel_rfl) ?_
          refine pT (.bool true) ?_
          refine pT (.bool true) ?_
          refine pl_nil ?_
          refine qw_then ?_
          refine cw_clean [0, 4, 5, 6, 7, 44] (ws' := [(0, .slice (some ⟨bs, os, none⟩) n c), (4, .slice aO kk cO), (5, .int .i64 (la : Int)), (6, .int .i64 (t7 : Int)), (7, .int .i64 (((i : Nat) : Int) : Int)), (44, .bool true)]) (by kernel_rfl) (fun L => ?_)
          refine cw_t (by kernel_rfl) ?_
          refine cw_plain ?_
          refine pT (.slice (some ⟨bs, os, none⟩) n c) ?_
          refine pT (.int .i64 (((i : Nat) : Int) : Int)) ?_
          refine pl_take (.pointer (some ⟨bs, os + i * 4, none⟩)) rfl (by kernel_rfl) (by kernel_rfl) (by kernel_rfl) (ex_index (p := .slice (some ⟨bs, os, none⟩) n c) (i := .int .i64 ((i : Nat) : Int)) rfl (by kernel_rfl) (by kernel_rfl) (ix27 (k := i) (by omega))) ?_
          refine pT (.pointer (some ⟨bs, os + i * 4 + 2, none⟩)) ?_
          refine pT (.pointer (some ⟨bs, os + i * 4 + 2, none⟩)) ?_
          refine pl_take (.int .i64 ((stN l i).fr : Int)) rfl (by kernel_rfl) (by kernel_rfl) (by kernel_rfl) (ex_load rfl (by kernel_rfl) (ld3 ((e0.cell q17)))) ?_
          refine pT (.int .i64 ((stN l i).fr : Int)) ?_
          refine pl_nil ?_
          refine qw_block ?_
          refine qw_then ?_
          refine cw_plain ?_
          refine pT (.int .i64 (((i : Nat) : Int) : Int)) ?_
          refine pl_take (.int .i64 (((i + 1 : Nat) : Int) : Int)) rfl (by kernel_rfl) (by kernel_rfl) (by kernel_rfl) (ev_wrap (by kernel_rfl) (by omega) (by omega)) ?_
          refine pT (.int .i64 (((i + 1 : Nat) : Int) : Int)) ?_
          refine pl_nil ?_
          refine qw_round [0, 4, 5, 6, 7] (ws' := [(0, .slice (some ⟨bs, os, none⟩) n c), (4, .slice aO kk cO), (5, .int .i64 (la : Int)), (6, .int .i64 ((stN l i).fr : Int)), (7, .int .i64 (((i + 1 : Nat) : Int) : Int))]) (by kernel_rfl) _ ?_ ⟨(i + 1), (stN l i).fr, rfl, rfl, hs12, e0, hE, hX11, by omega, (hnx.y (by omega) (by omega) (by omega) hla1)⟩
          omega
        ·
          refine pl_take (.bool false) rfl (by kernel_rfl) (by kernel_rfl) (by kernel_rfl) (ev_ndec (show _ = Result.ok (Next.value (Value.bool (decide ((t7 : Int) < (0 : Int))))) _ from by kernel_rfl) (hc20)) ?_
          refine pT (.bool false) ?_
          refine pT (.slice (some ⟨bs, os, none⟩) n c) ?_
          refine pT (.int .i64 (((i : Nat) : Int) : Int)) ?_
          refine pl_take (.pointer (some ⟨bs, os + i * 4, none⟩)) rfl (by kernel_rfl) (by kernel_rfl) (by kernel_rfl) (ex_index (p := .slice (some ⟨bs, os, none⟩) n c) (i := .int .i64 ((i : Nat) : Int)) rfl (by kernel_rfl) (by kernel_rfl) (ix27 (k := i) (by omega))) ?_
          refine pT (.pointer (some ⟨bs, os + i * 4 + 2, none⟩)) ?_
          refine pT (.pointer (some ⟨bs, os + i * 4 + 2, none⟩)) ?_
          refine pl_take (.int .i64 ((stN l i).fr : Int)) rfl (by kernel_rfl) (by kernel_rfl) (by kernel_rfl) (ex_load rfl (by kernel_rfl) (ld3 ((e0.cell q17)))) ?_
          refine pT (.int .i64 (t7 : Int)) ?_
          by_cases hc21 : ((stN l i).fr : Int) < (t7 : Int)
          ·
            refine pl_take (.bool true) rfl (by kernel_rfl) (by kernel_rfl) (by kernel_rfl) (ev_dec (show _ = Result.ok (Next.value (Value.bool (decide (((stN l i).fr : Int) < (t7 : Int))))) _ from by kernel_rfl) (hc21)) ?_
            refine pT (.bool true) ?_
            refine pT (.bool true) ?_
            refine pl_nil ?_
            refine qw_then ?_
            refine cw_clean [0, 4, 5, 6, 7, 44] (ws' := [(0, .slice (some ⟨bs, os, none⟩) n c), (4, .slice aO kk cO), (5, .int .i64 (la : Int)), (6, .int .i64 (t7 : Int)), (7, .int .i64 (((i : Nat) : Int) : Int)), (44, .bool true)]) (by kernel_rfl) (fun L => ?_)
            refine cw_t (by kernel_rfl) ?_
            refine cw_plain ?_
            refine pT (.slice (some ⟨bs, os, none⟩) n c) ?_
            refine pT (.int .i64 (((i : Nat) : Int) : Int)) ?_
            refine pl_take (.pointer (some ⟨bs, os + i * 4, none⟩)) rfl (by kernel_rfl) (by kernel_rfl) (by kernel_rfl) (ex_index (p := .slice (some ⟨bs, os, none⟩) n c) (i := .int .i64 ((i : Nat) : Int)) rfl (by kernel_rfl) (by kernel_rfl) (ix27 (k := i) (by omega))) ?_
            refine pT (.pointer (some ⟨bs, os + i * 4 + 2, none⟩)) ?_
            refine pT (.pointer (some ⟨bs, os + i * 4 + 2, none⟩)) ?_
            refine pl_take (.int .i64 ((stN l i).fr : Int)) rfl (by kernel_rfl) (by kernel_rfl) (by kernel_rfl) (ex_load rfl (by kernel_rfl) (ld3 ((e0.cell q17)))) ?_
            refine pT (.int .i64 ((stN l i).fr : Int)) ?_
            refine pl_nil ?_
            refine qw_block ?_
            refine qw_then ?_
            refine cw_plain ?_
            refine pT (.int .i64 (((i : Nat) : Int) : Int)) ?_
            refine pl_take (.int .i64 (((i + 1 : Nat) : Int) : Int)) rfl (by kernel_rfl) (by kernel_rfl) (by kernel_rfl) (ev_wrap (by kernel_rfl) (by omega) (by omega)) ?_
            refine pT (.int .i64 (((i + 1 : Nat) : Int) : Int)) ?_
            refine pl_nil ?_
            refine qw_round [0, 4, 5, 6, 7] (ws' := [(0, .slice (some ⟨bs, os, none⟩) n c), (4, .slice aO kk cO), (5, .int .i64 (la : Int)), (6, .int .i64 ((stN l i).fr : Int)), (7, .int .i64 (((i + 1 : Nat) : Int) : Int))]) (by kernel_rfl) _ ?_ ⟨(i + 1), (stN l i).fr, rfl, rfl, hs12, e0, hE, hX11, by omega, (hnx.y (by omega) (by omega) (by omega) hla1)⟩
            omega
          ·
            refine pl_take (.bool false) rfl (by kernel_rfl) (by kernel_rfl) (by kernel_rfl) (ev_ndec (show _ = Result.ok (Next.value (Value.bool (decide (((stN l i).fr : Int) < (t7 : Int))))) _ from by kernel_rfl) (hc21)) ?_
            refine pT (.bool false) ?_
            refine pT (.bool false) ?_
            refine pl_nil ?_
            refine qw_then ?_
            refine cw_clean [0, 4, 5, 6, 7, 44] (ws' := [(0, .slice (some ⟨bs, os, none⟩) n c), (4, .slice aO kk cO), (5, .int .i64 (la : Int)), (6, .int .i64 (t7 : Int)), (7, .int .i64 (((i : Nat) : Int) : Int)), (44, .bool false)]) (by kernel_rfl) (fun L => ?_)
            refine cw_f (by kernel_rfl) ?_
            refine cw_skip ?_
            refine qw_block ?_
            refine qw_then ?_
            refine cw_plain ?_
            refine pT (.int .i64 (((i : Nat) : Int) : Int)) ?_
            refine pl_take (.int .i64 (((i + 1 : Nat) : Int) : Int)) rfl (by kernel_rfl) (by kernel_rfl) (by kernel_rfl) (ev_wrap (by kernel_rfl) (by omega) (by omega)) ?_
            refine pT (.int .i64 (((i + 1 : Nat) : Int) : Int)) ?_
            refine pl_nil ?_
            refine qw_round [0, 4, 5, 6, 7] (ws' := [(0, .slice (some ⟨bs, os, none⟩) n c), (4, .slice aO kk cO), (5, .int .i64 (la : Int)), (6, .int .i64 (t7 : Int)), (7, .int .i64 (((i + 1 : Nat) : Int) : Int))]) (by kernel_rfl) _ ?_ ⟨(i + 1), t7, rfl, rfl, hs12, e0, hE, hX11, by omega, (hnx.n (by omega) (by omega))⟩
            omega
      ·
        refine pl_take (.bool false) rfl (by kernel_rfl) (by kernel_rfl) (by kernel_rfl) (ev_ndec (show _ = Result.ok (Next.value (Value.bool (decide (((stN l i).fr : Int) > (la : Int))))) _ from by kernel_rfl) (hc19)) ?_
        refine pT (.bool false) ?_
        refine pl_skip rfl (by kernel_rfl) (by kernel_rfl) (by kernel_rfl) ?_
        refine pl_skip rfl (by kernel_rfl) (by kernel_rfl) (by kernel_rfl) ?_
        refine pl_skip rfl (by kernel_rfl) (by kernel_rfl) (by kernel_rfl) ?_
        refine pl_skip rfl (by kernel_rfl) (by kernel_rfl) (by kernel_rfl) ?_
        refine pl_skip rfl (by kernel_rfl) (by kernel_rfl) (by kernel_rfl) ?_
        refine pl_skip rfl (by kernel_rfl) (by kernel_rfl) (by kernel_rfl) ?_
        refine pl_skip rfl (by kernel_rfl) (by kernel_rfl) (by kernel_rfl) ?_
        refine pl_skip rfl (by kernel_rfl) (by kernel_rfl) (by kernel_rfl) ?_
        refine pl_skip rfl (by kernel_rfl) (by kernel_rfl) (by kernel_rfl) ?_
        refine pl_skip rfl (by kernel_rfl) (by kernel_rfl) (by kernel_rfl) ?_
        refine pl_skip rfl (by kernel_rfl) (by kernel_rfl) (by kernel_rfl) ?_
        refine pl_skip rfl (by kernel_rfl) (by kernel_rfl) (by kernel_rfl) ?_
        refine pT (.bool false) ?_
        refine pl_nil ?_
        refine qw_then ?_
        refine cw_clean [0, 4, 5, 6, 7, 44] (ws' := [(0, .slice (some ⟨bs, os, none⟩) n c), (4, .slice aO kk cO), (5, .int .i64 (la : Int)), (6, .int .i64 (t7 : Int)), (7, .int .i64 (((i : Nat) : Int) : Int)), (44, .bool false)]) (by kernel_rfl) (fun L => ?_)
        refine cw_f (by kernel_rfl) ?_
        refine cw_skip ?_
        refine qw_block ?_
        refine qw_then ?_
        refine cw_plain ?_
        refine pT (.int .i64 (((i : Nat) : Int) : Int)) ?_
        refine pl_take (.int .i64 (((i + 1 : Nat) : Int) : Int)) rfl (by kernel_rfl) (by kernel_rfl) (by kernel_rfl) (ev_wrap (by kernel_rfl) (by omega) (by omega)) ?_
        refine pT (.int .i64 (((i + 1 : Nat) : Int) : Int)) ?_
        refine pl_nil ?_
        refine qw_round [0, 4, 5, 6, 7] (ws' := [(0, .slice (some ⟨bs, os, none⟩) n c), (4, .slice aO kk cO), (5, .int .i64 (la : Int)), (6, .int .i64 (t7 : Int)), (7, .int .i64 (((i + 1 : Nat) : Int) : Int))]) (by kernel_rfl) _ ?_ ⟨(i + 1), t7, rfl, rfl, hs12, e0, hE, hX11, by omega, (hnx.n (by omega) (by omega))⟩
        omega
    ·
      rw [hla] at hnx
      obtain ⟨hA, hB⟩ := Mem.next_beg hf hpl (by omega) hnx
      refine cw_seq ?_
      refine cw_seq ?_
      refine cw_plain ?_
      refine pT (.int .i64 (((i : Nat) : Int) : Int)) ?_
      refine pT (.slice a n c) ?_
      refine pT (.int .i64 (((n : Nat) : Int) : Int)) ?_
      refine pl_take (.bool false) rfl (by kernel_rfl) (by kernel_rfl) (by kernel_rfl) (ev_ndec (show _ = Result.ok (Next.value (Value.bool (decide ((((i : Nat) : Int) : Int) < (((n : Nat) : Int) : Int))))) _ from by kernel_rfl) (by omega)) ?_
      refine pl_nil ?_
      refine qw_then ?_
      refine cw_f (by kernel_rfl) ?_
      refine cw_exit ?_
      refine qw_then_exit ?_
      refine qw_then_exit ?_
      refine qw_block_out ?_
      refine qw_then ?_
      refine cw_seq ?_
      refine cw_seq ?_
      by_cases hp : p < (Mem.begs l).length
      ·
        have ht7 := hA hp
        obtain ⟨x7, hx7, e7⟩ := Mem.mem_begs.1 (Mem.begN_mem hp)
        have hx70 := hf x7 hx7
        have hbt := Mem.alive_bits (l := l) (t := t7) hl24
        refine cw_plain ?_
        refine pT (.int .i64 (t7 : Int)) ?_
        refine pl_take (.bool false) rfl (by kernel_rfl) (by kernel_rfl) (by kernel_rfl) (ev_ndec (show _ = Result.ok (Next.value (Value.bool (decide ((t7 : Int) < (0 : Int))))) _ from by kernel_rfl) (by omega)) ?_
        refine pl_nil ?_
        refine qw_then ?_
        refine cw_f (by kernel_rfl) ?_
        refine cw_skip ?_
        refine qw_then ?_
        refine cw_seq ?_
        refine cw_plain ?_
        refine pT (.int .i64 (t7 : Int)) ?_
        refine pT (.int .i64 (t7 : Int)) ?_
        refine pl_nil ?_
        refine qw_then ?_
        refine cw_seq ?_
        refine cw_plain ?_
        refine pT (.slice a n c) ?_
        refine pT (.int .i64 (t7 : Int)) ?_
        refine pl_step rfl (by kernel_rfl) (by kernel_rfl) (by kernel_rfl) (sn_call (f := 44) (args := #[.slice a n c, .int .i64 (t7 : Int)]) (by kernel_rfl) ((rat_c t7 _ _ h e0 hok9).mono ?_))
        rintro e w22 ⟨rfl, hb⟩
        replace e0 := e0.trans hb
        replace hE := hE.trans hb
        replace hX11 := hX11.trans hb
        have hs23 := hb.size
        clear hb
        refine ⟨_, rfl, ?_⟩
        refine pT (.int .i64 (((Mem.bitsOf (Mem.alive l t7) : Nat) : Int) : Int)) ?_
        refine pl_nil ?_
        refine qw_then ?_
        refine cw_clean [0, 4, 5, 8] (ws' := [(0, .slice a n c), (4, .slice aO kk cO), (5, .int .i64 (t7 : Int)), (8, .int .i64 (((Mem.bitsOf (Mem.alive l t7) : Nat) : Int) : Int))]) (by kernel_rfl) (fun L => ?_)
        refine cw_seq ?_
        refine cw_plain ?_
        refine pT (.bool true) ?_
        refine pl_nil ?_
        refine qw_then ?_
        refine cw_seq ?_
        refine cw_seq ?_
        refine cw_plain ?_
        refine pT (.int .i64 0) ?_
        refine pl_nil ?_
        refine qw_then ?_
        refine cw_block ?_
        refine cw_loop [0, 4, 5, 8, 9, 10] (fun ws' wr m => ∃ i : Nat, ∃ gb : Bool, ws' = [(0, .slice a n c), (4, .slice aO kk cO), (5, .int .i64 (t7 : Int)), (8, .int .i64 (((Mem.bitsOf (Mem.alive l t7) : Nat) : Int) : Int)), (9, .bool gb), (10, .int .i64 (((i : Nat) : Int) : Int))] ∧ m = n - i ∧ w22.heap.size ≤ wr.heap.size ∧ Ext w0 wr ∧ Ext w wr ∧ Ext w9 wr ∧ i ≤ n ∧ gb = Mem.gU l t7 i) (ws0 := [(0, .slice a n c), (4, .slice aO kk cO), (5, .int .i64 (t7 : Int)), (8, .int .i64 (((Mem.bitsOf (Mem.alive l t7) : Nat) : Int) : Int)), (9, .bool true), (10, .int .i64 0)]) (by kernel_rfl) _ ⟨0, true, rfl, rfl, Nat.le_refl _, e0, hE, hX11, Nat.zero_le _, (by unfold Mem.gU; rw [List.take_zero]; rfl)⟩ ?_
        clear e0 hE hX11
        rintro m26 L ws w25 ⟨i, gb, rfl, rfl, hs24, e0, hE, hX11, hi, hgb⟩
        by_cases hlt : i < n
        ·
          obtain rfl := ha (by omega)
          obtain ⟨q27, q28, q29, q30⟩ := hx i hlt
          have hgn := Mem.gU_next (l := l) (t := t7) (show i < l.length by omega)
          have hbo := Mem.alive_bits (l := l) (t := (stN l i).fr) hl24
          refine cw_seq ?_
          refine cw_seq ?_
          refine cw_plain ?_
          refine pT (.int .i64 (((i : Nat) : Int) : Int)) ?_
          refine pT (.slice (some ⟨bs, os, none⟩) n c) ?_
          refine pT (.int .i64 (((n : Nat) : Int) : Int)) ?_
          refine pl_take (.bool true) rfl (by kernel_rfl) (by kernel_rfl) (by kernel_rfl) (ev_dec (show _ = Result.ok (Next.value (Value.bool (decide ((((i : Nat) : Int) : Int) < (((n : Nat) : Int) : Int))))) _ from by kernel_rfl) (by omega)) ?_
          refine pl_nil ?_
          refine qw_then ?_
          refine cw_t (by kernel_rfl) ?_
          refine cw_skip ?_
          refine qw_then ?_
          refine cw_seq ?_
          refine cw_block ?_
          refine cw_seq ?_
          refine cw_plain ?_
          refine pT (.slice (some ⟨bs, os, none⟩) n c) ?_
          refine pT (.slice (some ⟨bs, os, none⟩) n c) ?_
          refine pT (.int .i64 (((i : Nat) : Int) : Int)) ?_
          refine pl_take (.pointer (some ⟨bs, os + i * 4, none⟩)) rfl (by kernel_rfl) (by kernel_rfl) (by kernel_rfl) (ex_index (p := .slice (some ⟨bs, os, none⟩) n c) (i := .int .i64 ((i : Nat) : Int)) rfl (by kernel_rfl) (by kernel_rfl) (ix27 (k := i) (by omega))) ?_
          refine pT (.pointer (some ⟨bs, os + i * 4 + 2, none⟩)) ?_
          refine pT (.pointer (some ⟨bs, os + i * 4 + 2, none⟩)) ?_
          refine pl_take (.int .i64 ((stN l i).fr : Int)) rfl (by kernel_rfl) (by kernel_rfl) (by kernel_rfl) (ex_load rfl (by kernel_rfl) (ld3 ((e0.cell q29)))) ?_
          refine pl_step rfl (by kernel_rfl) (by kernel_rfl) (by kernel_rfl) (sn_call (f := 44) (args := #[.slice (some ⟨bs, os, none⟩) n c, .int .i64 ((stN l i).fr : Int)]) (by kernel_rfl) ((rat_c ((stN l i).fr) _ _ h e0 hok9).mono ?_))
          rintro e w31 ⟨rfl, hb⟩
          replace e0 := e0.trans hb
          replace hE := hE.trans hb
          replace hX11 := hX11.trans hb
          have hs32 := hb.size
          clear hb
          refine ⟨_, rfl, ?_⟩
          refine pT (.int .i64 (((Mem.bitsOf (Mem.alive l ((stN l i).fr)) : Nat) : Int) : Int)) ?_
          refine pl_nil ?_
          refine qw_then ?_
          refine cw_clean [0, 4, 5, 8, 9, 10, 11] (ws' := [(0, .slice (some ⟨bs, os, none⟩) n c), (4, .slice aO kk cO), (5, .int .i64 (t7 : Int)), (8, .int .i64 (((Mem.bitsOf (Mem.alive l t7) : Nat) : Int) : Int)), (9, .bool gb), (10, .int .i64 (((i : Nat) : Int) : Int)), (11, .int .i64 (((Mem.bitsOf (Mem.alive l ((stN l i).fr)) : Nat) : Int) : Int))]) (by kernel_rfl) (fun L => ?_)
          refine cw_seq ?_
          refine cw_plain ?_
          refine pT (.int .i64 (((Mem.bitsOf (Mem.alive l ((stN l i).fr)) : Nat) : Int) : Int)) ?_
          refine pT (.int .i64 (((Mem.bitsOf (Mem.alive l t7) : Nat) : Int) : Int)) ?_
          by_cases hc33 : (((Mem.bitsOf (Mem.alive l ((stN l i).fr)) : Nat) : Int) : Int) = (((Mem.bitsOf (Mem.alive l t7) : Nat) : Int) : Int)
          ·
            refine pl_take (.bool false) rfl (by kernel_rfl) (by kernel_rfl) (by kernel_rfl) (ev_nne (show _ = Result.ok (Next.value (Value.bool ((((Mem.bitsOf (Mem.alive l ((stN l i).fr)) : Nat) : Int) : Int) != (((Mem.bitsOf (Mem.alive l t7) : Nat) : Int) : Int)))) _ from by kernel_rfl) (hc33)) ?_
            refine pT (.bool false) ?_
            refine pl_skip rfl (by kernel_rfl) (by kernel_rfl) (by kernel_rfl) ?_
            refine pl_skip rfl (by kernel_rfl) (by kernel_rfl) (by kernel_rfl) ?_
            refine pl_skip rfl (by kernel_rfl) (by kernel_rfl) (by kernel_rfl) ?_
            refine pl_skip rfl (by kernel_rfl) (by kernel_rfl) (by kernel_rfl) ?_
            refine pl_skip rfl (by kernel_rfl) (by kernel_rfl) (by kernel_rfl) ?_
            refine pT (.bool false) ?_
            refine pl_nil ?_
            refine qw_then ?_
            refine cw_clean [0, 4, 5, 8, 9, 10, 81] (ws' := [(0, .slice (some ⟨bs, os, none⟩) n c), (4, .slice aO kk cO), (5, .int .i64 (t7 : Int)), (8, .int .i64 (((Mem.bitsOf (Mem.alive l t7) : Nat) : Int) : Int)), (9, .bool gb), (10, .int .i64 (((i : Nat) : Int) : Int)), (81, .bool false)]) (by kernel_rfl) (fun L => ?_)
            refine cw_f (by kernel_rfl) ?_
            refine cw_skip ?_
            refine qw_block ?_
            refine qw_then ?_
            refine cw_plain ?_
            refine pT (.int .i64 (((i : Nat) : Int) : Int)) ?_
            refine pl_take (.int .i64 (((i + 1 : Nat) : Int) : Int)) rfl (by kernel_rfl) (by kernel_rfl) (by kernel_rfl) (ev_wrap (by kernel_rfl) (by omega) (by omega)) ?_
            refine pT (.int .i64 (((i + 1 : Nat) : Int) : Int)) ?_
            refine pl_nil ?_
            refine qw_round [0, 4, 5, 8, 9, 10] (ws' := [(0, .slice (some ⟨bs, os, none⟩) n c), (4, .slice aO kk cO), (5, .int .i64 (t7 : Int)), (8, .int .i64 (((Mem.bitsOf (Mem.alive l t7) : Nat) : Int) : Int)), (9, .bool gb), (10, .int .i64 (((i + 1 : Nat) : Int) : Int))]) (by kernel_rfl) _ ?_ ⟨(i + 1), gb, rfl, rfl, (Nat.le_trans hs24 hs32), e0, hE, hX11, by omega, (by rw [hgn, ← hgb, decide_eq_false (show ¬ (Mem.bitsOf (Mem.alive l (stN l i).fr) ≠ Mem.bitsOf (Mem.alive l t7)) from fun h => h (by omega))]; simp)⟩
            omega
          ·
            refine pl_take (.bool true) rfl (by kernel_rfl) (by kernel_rfl) (by kernel_rfl) (ev_ne (show _ = Result.ok (Next.value (Value.bool ((((Mem.bitsOf (Mem.alive l ((stN l i).fr)) : Nat) : Int) : Int) != (((Mem.bitsOf (Mem.alive l t7) : Nat) : Int) : Int)))) _ from by kernel_rfl) (hc33)) ?_
            refine pT (.bool true) ?_
            refine pT (.int .i64 (((Mem.bitsOf (Mem.alive l ((stN l i).fr)) : Nat) : Int) : Int)) ?_
            refine pT (.int .i64 (((Mem.bitsOf (Mem.alive l t7) : Nat) : Int) : Int)) ?_
            refine pl_take (.int .i64 ((((Mem.bitsOf (Mem.alive l (stN l i).fr)) &&& (Mem.bitsOf (Mem.alive l t7)) : Nat) : Int) : Int)) rfl (by kernel_rfl) (by kernel_rfl) (by kernel_rfl) (ev_int (show _ = Result.ok (Next.value (Value.int .i64 (bits .and .i64 ((Mem.bitsOf (Mem.alive l (stN l i).fr) : Nat) : Int) ((Mem.bitsOf (Mem.alive l t7) : Nat) : Int)))) _ from by kernel_rfl) (and_i64 _ _ (by omega) (by omega))) ?_
            refine pT (.int .i64 (((Mem.bitsOf (Mem.alive l t7) : Nat) : Int) : Int)) ?_
            by_cases hc34 : ((((Mem.bitsOf (Mem.alive l (stN l i).fr)) &&& (Mem.bitsOf (Mem.alive l t7)) : Nat) : Int) : Int) = (((Mem.bitsOf (Mem.alive l t7) : Nat) : Int) : Int)
            ·
              refine pl_take (.bool true) rfl (by kernel_rfl) (by kernel_rfl) (by kernel_rfl) (ev_eq (show _ = Result.ok (Next.value (Value.bool (((((Mem.bitsOf (Mem.alive l (stN l i).fr)) &&& (Mem.bitsOf (Mem.alive l t7)) : Nat) : Int) : Int) == (((Mem.bitsOf (Mem.alive l t7) : Nat) : Int) : Int)))) _ from by kernel_rfl) (hc34)) ?_
              refine pT (.bool true) ?_
              refine pl_nil ?_
              refine qw_then ?_
              refine cw_clean [0, 4, 5, 8, 9, 10, 81] (ws' := [(0, .slice (some ⟨bs, os, none⟩) n c), (4, .slice aO kk cO), (5, .int .i64 (t7 : Int)), (8, .int .i64 (((Mem.bitsOf (Mem.alive l t7) : Nat) : Int) : Int)), (9, .bool gb), (10, .int .i64 (((i : Nat) : Int) : Int)), (81, .bool true)]) (by kernel_rfl) (fun L => ?_)
              refine cw_t (by kernel_rfl) ?_
              refine cw_plain ?_
              refine pT (.bool false) ?_
              refine pl_nil ?_
              refine qw_block ?_
              refine qw_then ?_
              refine cw_plain ?_
              refine pT (.int .i64 (((i : Nat) : Int) : Int)) ?_
              refine pl_take (.int .i64 (((i + 1 : Nat) : Int) : Int)) rfl (by kernel_rfl) (by kernel_rfl) (by kernel_rfl) (ev_wrap (by kernel_rfl) (by omega) (by omega)) ?_
              refine pT (.int .i64 (((i + 1 : Nat) : Int) : Int)) ?_
              refine pl_nil ?_
              refine qw_round [0, 4, 5, 8, 9, 10] (ws' := [(0, .slice (some ⟨bs, os, none⟩) n c), (4, .slice aO kk cO), (5, .int .i64 (t7 : Int)), (8, .int .i64 (((Mem.bitsOf (Mem.alive l t7) : Nat) : Int) : Int)), (9, .bool false), (10, .int .i64 (((i + 1 : Nat) : Int) : Int))]) (by kernel_rfl) _ ?_ ⟨(i + 1), false, rfl, rfl, (Nat.le_trans hs24 hs32), e0, hE, hX11, by omega, (by rw [hgn, decide_eq_true (show Mem.bitsOf (Mem.alive l (stN l i).fr) ≠ Mem.bitsOf (Mem.alive l t7) by omega), decide_eq_true (show Mem.bitsOf (Mem.alive l (stN l i).fr) &&& Mem.bitsOf (Mem.alive l t7) = Mem.bitsOf (Mem.alive l t7) by omega)]; simp)⟩
              omega
            ·
              refine pl_take (.bool false) rfl (by kernel_rfl) (by kernel_rfl) (by kernel_rfl) (ev_neq (show _ = Result.ok (Next.value (Value.bool (((((Mem.bitsOf (Mem.alive l (stN l i).fr)) &&& (Mem.bitsOf (Mem.alive l t7)) : Nat) : Int) : Int) == (((Mem.bitsOf (Mem.alive l t7) : Nat) : Int) : Int)))) _ from by kernel_rfl) (hc34)) ?_
              refine pT (.bool false) ?_
              refine pl_nil ?_
              refine qw_then ?_
              refine cw_clean [0, 4, 5, 8, 9, 10, 81] (ws' := [(0, .slice (some ⟨bs, os, none⟩) n c), (4, .slice aO kk cO), (5, .int .i64 (t7 : Int)), (8, .int .i64 (((Mem.bitsOf (Mem.alive l t7) : Nat) : Int) : Int)), (9, .bool gb), (10, .int .i64 (((i : Nat) : Int) : Int)), (81, .bool false)]) (by kernel_rfl) (fun L => ?_)
              refine cw_f (by kernel_rfl) ?_
              refine cw_skip ?_
              refine qw_block ?_
              refine qw_then ?_
              refine cw_plain ?_
              refine pT (.int .i64 (((i : Nat) : Int) : Int)) ?_
              refine pl_take (.int .i64 (((i + 1 : Nat) : Int) : Int)) rfl (by kernel_rfl) (by kernel_rfl) (by kernel_rfl) (ev_wrap (by kernel_rfl) (by omega) (by omega)) ?_
              refine pT (.int .i64 (((i + 1 : Nat) : Int) : Int)) ?_
              refine pl_nil ?_
              refine qw_round [0, 4, 5, 8, 9, 10] (ws' := [(0, .slice (some ⟨bs, os, none⟩) n c), (4, .slice aO kk cO), (5, .int .i64 (t7 : Int)), (8, .int .i64 (((Mem.bitsOf (Mem.alive l t7) : Nat) : Int) : Int)), (9, .bool gb), (10, .int .i64 (((i + 1 : Nat) : Int) : Int))]) (by kernel_rfl) _ ?_ ⟨(i + 1), gb, rfl, rfl, (Nat.le_trans hs24 hs32), e0, hE, hX11, by omega, (by rw [hgn, ← hgb, decide_eq_false (show ¬ (Mem.bitsOf (Mem.alive l (stN l i).fr) &&& Mem.bitsOf (Mem.alive l t7) = Mem.bitsOf (Mem.alive l t7)) by omega)]; simp)⟩
              omega
        ·
          have hmx : gb = Mem.maxAt l t7 := by rw [hgb]; exact Mem.gU_all (by omega)
          refine cw_seq ?_
          refine cw_seq ?_
          refine cw_plain ?_
          refine pT (.int .i64 (((i : Nat) : Int) : Int)) ?_
          refine pT (.slice a n c) ?_
          refine pT (.int .i64 (((n : Nat) : Int) : Int)) ?_
          refine pl_take (.bool false) rfl (by kernel_rfl) (by kernel_rfl) (by kernel_rfl) (ev_ndec (show _ = Result.ok (Next.value (Value.bool (decide ((((i : Nat) : Int) : Int) < (((n : Nat) : Int) : Int))))) _ from by kernel_rfl) (by omega)) ?_
          refine pl_nil ?_
          refine qw_then ?_
          refine cw_f (by kernel_rfl) ?_
          refine cw_exit ?_
          refine qw_then_exit ?_
          refine qw_then_exit ?_
          refine qw_block_out ?_
          refine qw_then ?_
          refine cw_seq ?_
          refine cw_seq ?_
          cases gb
          ·
            refine cw_plain ?_
            refine pT (.bool false) ?_
            refine pT (.bool true) ?_
            refine pl_nil ?_
            refine qw_then ?_
            refine cw_t (by kernel_rfl) ?_
            refine cw_exit ?_
            refine qw_then_exit ?_
            refine qw_block_out ?_
            refine qw_round [0, 4, 5] (ws' := [(0, .slice a n c), (4, .slice aO kk cO), (5, .int .i64 (t7 : Int))]) (by kernel_rfl) _ ?_ ⟨(p + 1), t7, aO, kk, cO, rfl, rfl, (Nat.le_trans hs8 (Nat.le_trans hs12 (Nat.le_trans hs23 hs24))), e0, hE, (by rw [Mem.outU_n hp (by rw [← ht7]; exact hmx.symm)]; exact (os9.ext hX11)), by omega, (by rw [Mem.outU_n hp (by rw [← ht7]; exact hmx.symm)]; exact hsl9), (by rw [ht7]; unfold Mem.lastB; rw [if_neg (by omega)]; rfl)⟩
            omega
          ·
            refine cw_plain ?_
            refine pT (.bool true) ?_
            refine pT (.bool false) ?_
            refine pl_nil ?_
            refine qw_then ?_
            refine cw_f (by kernel_rfl) ?_
            refine cw_skip ?_
            refine qw_then ?_
            refine cw_seq ?_
            refine cw_plain ?_
            refine pT (.slice none 0 0) ?_
            refine pl_nil ?_
            refine qw_then ?_
            refine cw_seq ?_
            refine cw_seq ?_
            refine cw_plain ?_
            refine pT (.int .i64 0) ?_
            refine pl_nil ?_
            refine qw_then ?_
            refine cw_block ?_
            refine cw_loop [0, 4, 5, 8, 12, 13] (fun ws' wr m => ∃ i : Nat, ∃ aq : Option Addr, ∃ m7 : Nat, ∃ cq : Nat, ws' = [(0, .slice a n c), (4, .slice aO kk cO), (5, .int .i64 (t7 : Int)), (8, .int .i64 (((Mem.bitsOf (Mem.alive l t7) : Nat) : Int) : Int)), (12, .slice aq m7 cq), (13, .int .i64 (((i : Nat) : Int) : Int))] ∧ m = n - i ∧ w25.heap.size ≤ wr.heap.size ∧ Ext w0 wr ∧ Ext w wr ∧ Ext w9 wr ∧ OwnL natR w25.heap.size 3 1 (.slice aq m7 cq) wr (Mem.rowU l t7 i) ∧ i ≤ n ∧ (Mem.rowU l t7 i).length = m7 ∧ m7 ≤ i) (ws0 := [(0, .slice a n c), (4, .slice aO kk cO), (5, .int .i64 (t7 : Int)), (8, .int .i64 (((Mem.bitsOf (Mem.alive l t7) : Nat) : Int) : Int)), (12, .slice none 0 0), (13, .int .i64 0)]) (by kernel_rfl) _ ⟨0, none, 0, 0, rfl, rfl, Nat.le_refl _, e0, hE, hX11, OwnL.nil _ _ _ _ _, Nat.zero_le _, rfl, Nat.le_refl _⟩ ?_
            clear e0 hE hX11
            rintro m37 L ws w36 ⟨i, aq, m7, cq, rfl, rfl, hs35, e0, hE, hX11, own8, hi, hm7, hmi⟩
            by_cases hlt : i < n
            ·
              have hbk8 := own8.lt
              refine cw_seq ?_
              refine cw_seq ?_
              refine cw_plain ?_
              refine pT (.int .i64 (((i : Nat) : Int) : Int)) ?_
              refine pT (.slice a n c) ?_
              refine pT (.int .i64 (((n : Nat) : Int) : Int)) ?_
              refine pl_take (.bool true) rfl (by kernel_rfl) (by kernel_rfl) (by kernel_rfl) (ev_dec (show _ = Result.ok (Next.value (Value.bool (decide ((((i : Nat) : Int) : Int) < (((n : Nat) : Int) : Int))))) _ from by kernel_rfl) (by omega)) ?_
              refine pl_nil ?_
              refine qw_then ?_
              refine cw_t (by kernel_rfl) ?_
              refine cw_skip ?_
              refine qw_then ?_
              refine cw_seq ?_
              refine cw_block ?_
              refine cw_seq ?_
              refine cw_plain ?_
              refine pT (.int .i64 (((Mem.bitsOf (Mem.alive l t7) : Nat) : Int) : Int)) ?_
              refine pT (.int .i64 (((i : Nat) : Int) : Int)) ?_
              refine pl_take (.int .i64 ((((Mem.bitsOf (Mem.alive l t7)) / 2 ^ i : Nat) : Int) : Int)) rfl (by kernel_rfl) (by kernel_rfl) (by kernel_rfl) (ex_bin rfl (by kernel_rfl) (by kernel_rfl) (bin_shr (by omega))) ?_
              refine pl_take (.int .i64 (((((Mem.bitsOf (Mem.alive l t7)) / 2 ^ i) % 2 : Nat) : Int) : Int)) rfl (by kernel_rfl) (by kernel_rfl) (by kernel_rfl) (ex_bin (a := (((Mem.bitsOf (Mem.alive l t7)) / 2 ^ i : Nat) : Int)) (b := ((2 : Nat) : Int)) rfl (by kernel_rfl) (by kernel_rfl) (bin_rem (by omega))) ?_
              by_cases hc38 : (((((Mem.bitsOf (Mem.alive l t7)) / 2 ^ i) % 2 : Nat) : Int) : Int) = (1 : Int)
              ·
                refine pl_take (.bool true) rfl (by kernel_rfl) (by kernel_rfl) (by kernel_rfl) (ev_eq (show _ = Result.ok (Next.value (Value.bool ((((((Mem.bitsOf (Mem.alive l t7)) / 2 ^ i) % 2 : Nat) : Int) : Int) == (1 : Int)))) _ from by kernel_rfl) (hc38)) ?_
                refine pl_nil ?_
                refine qw_then ?_
                refine cw_clean [0, 4, 5, 8, 12, 13, 94] (ws' := [(0, .slice a n c), (4, .slice aO kk cO), (5, .int .i64 (t7 : Int)), (8, .int .i64 (((Mem.bitsOf (Mem.alive l t7) : Nat) : Int) : Int)), (12, .slice aq m7 cq), (13, .int .i64 (((i : Nat) : Int) : Int)), (94, .bool true)]) (by kernel_rfl) (fun L => ?_)
                refine cw_t (by kernel_rfl) ?_
                refine cw_plain ?_
                refine pT (.slice aq m7 cq) ?_
                refine pT (.int .i64 (((i : Nat) : Int) : Int)) ?_
                refine pl_step rfl (by kernel_rfl) (by kernel_rfl) (by kernel_rfl) (sn_newS (us := #[.int .i64 (((i : Nat) : Int) : Int)]) (t := 3) (k := 1) (c := 1) (by kernel_rfl) ?_)
                intro O39 X40 hO hOs hb hbx
                have hzO39 := hO; have hyO39 := hOs; clear hO hOs
                have bO39_0 : BoxAt X40 O39 0 (.int .i64 (((i : Nat) : Int) : Int)) := hbx 0 _ rfl
                clear hbx
                replace e0 := e0.trans hb
                replace hE := hE.trans hb
                replace hX11 := hX11.trans hb
                replace own8 := own8.ext hb
                have hs41 := hb.size
                clear hb
                have lt42 := bO39_0.lt
                have hbs53 := own8.base
                obtain ⟨g43, cap44, w45, hrun46, own47, hgr48, hgb49⟩ := own_app1k (P := Try.prog) (ty := 56) intT (own8) (Nat.le_trans hs35 hs41) (k := m7) hm7 (O := O39) (c := 1) (x := i) (d := [.int .i64 (((i : Nat) : Int) : Int)]) (F := []) rfl (cells1 (bO39_0.1)) (by simp [Value.oneCell']) (⟨rfl, rfl⟩) (fun b hb => by cases hb) (by omega) (by omega)
                refine pl_step rfl (by kernel_rfl) (by kernel_rfl) (by kernel_rfl) (sn_eff (v := .slice (some ⟨g43, 0, none⟩) (m7 + 1) cap44) (w' := w45) (ex_append rfl (by kernel_rfl) (by kernel_rfl) hrun46) ?_)
                replace bO39_0 := BoxAt.grownR bO39_0 hgb49 (own_not2 hbk8 (Nat.le_of_eq hzO39))
                replace e0 := hgr48.ext _ e0 (Nat.le_trans hs0 (Nat.le_trans hs7 (Nat.le_trans hs8 (Nat.le_trans hs12 (Nat.le_trans hs23 hs24)))))
                replace hE := hgr48.ext _ hE (Nat.le_trans hs7 (Nat.le_trans hs8 (Nat.le_trans hs12 (Nat.le_trans hs23 hs24))))
                replace hX11 := hgr48.ext _ hX11 (Nat.le_trans hs12 (Nat.le_trans hs23 hs24))
                have hs50 := hgr48.size
                have hl51 := own47.base g43 rfl; have hh52 := own47.lt g43 rfl
                refine pT (.slice (some ⟨g43, 0, none⟩) (m7 + 1) cap44) ?_
                refine pl_nil ?_
                refine qw_block ?_
                refine qw_then ?_
                refine cw_plain ?_
                refine pT (.int .i64 (((i : Nat) : Int) : Int)) ?_
                refine pl_take (.int .i64 (((i + 1 : Nat) : Int) : Int)) rfl (by kernel_rfl) (by kernel_rfl) (by kernel_rfl) (ev_wrap (by kernel_rfl) (by omega) (by omega)) ?_
                refine pT (.int .i64 (((i + 1 : Nat) : Int) : Int)) ?_
                refine pl_nil ?_
                have hry := Mem.rowU_y (Mem.bit_at.1 (show Mem.bitsOf (Mem.alive l t7) / 2 ^ i % 2 = 1 by omega))
                refine qw_round [0, 4, 5, 8, 12, 13] (ws' := [(0, .slice a n c), (4, .slice aO kk cO), (5, .int .i64 (t7 : Int)), (8, .int .i64 (((Mem.bitsOf (Mem.alive l t7) : Nat) : Int) : Int)), (12, .slice (some ⟨g43, 0, none⟩) (m7 + 1) cap44), (13, .int .i64 (((i + 1 : Nat) : Int) : Int))]) (by kernel_rfl) _ ?_ ⟨(i + 1), (some ⟨g43, 0, none⟩), (m7 + 1), cap44, rfl, rfl, (Nat.le_trans hs35 (Nat.le_trans hs41 hs50)), e0, hE, hX11, (by rw [hry]; exact own47), by omega, (by rw [hry, List.length_append, hm7]; rfl), by omega⟩
                omega
              ·
                refine pl_take (.bool false) rfl (by kernel_rfl) (by kernel_rfl) (by kernel_rfl) (ev_neq (show _ = Result.ok (Next.value (Value.bool ((((((Mem.bitsOf (Mem.alive l t7)) / 2 ^ i) % 2 : Nat) : Int) : Int) == (1 : Int)))) _ from by kernel_rfl) (hc38)) ?_
                refine pl_nil ?_
                refine qw_then ?_
                refine cw_clean [0, 4, 5, 8, 12, 13, 94] (ws' := [(0, .slice a n c), (4, .slice aO kk cO), (5, .int .i64 (t7 : Int)), (8, .int .i64 (((Mem.bitsOf (Mem.alive l t7) : Nat) : Int) : Int)), (12, .slice aq m7 cq), (13, .int .i64 (((i : Nat) : Int) : Int)), (94, .bool false)]) (by kernel_rfl) (fun L => ?_)
                refine cw_f (by kernel_rfl) ?_
                refine cw_skip ?_
                refine qw_block ?_
                refine qw_then ?_
                refine cw_plain ?_
                refine pT (.int .i64 (((i : Nat) : Int) : Int)) ?_
                refine pl_take (.int .i64 (((i + 1 : Nat) : Int) : Int)) rfl (by kernel_rfl) (by kernel_rfl) (by kernel_rfl) (ev_wrap (by kernel_rfl) (by omega) (by omega)) ?_
                refine pT (.int .i64 (((i + 1 : Nat) : Int) : Int)) ?_
                refine pl_nil ?_
                have hry := Mem.rowU_n (l := l) (t := t7) (i := i) (by omega) (fun hz => by have := Mem.bit_at.2 hz; omega)
                refine qw_round [0, 4, 5, 8, 12, 13] (ws' := [(0, .slice a n c), (4, .slice aO kk cO), (5, .int .i64 (t7 : Int)), (8, .int .i64 (((Mem.bitsOf (Mem.alive l t7) : Nat) : Int) : Int)), (12, .slice aq m7 cq), (13, .int .i64 (((i + 1 : Nat) : Int) : Int))]) (by kernel_rfl) _ ?_ ⟨(i + 1), aq, m7, cq, rfl, rfl, hs35, e0, hE, hX11, (by rw [hry]; exact own8), by omega, (by rw [hry]; exact hm7), by omega⟩
                omega
            ·
              have hal : Mem.rowU l t7 i = Mem.alive l t7 := by rw [show i = l.length by omega]; rfl
              rw [hal] at hm7 own8
              have hne9 : Mem.alive l t7 ≠ [] := by rw [ht7]; exact Mem.alive_ne hu hp
              obtain rfl := hm7
              obtain ⟨bq, haq, hbq, hsq⟩ := own_nats own8 rfl (List.length_pos_iff.2 hne9)
              obtain rfl := haq
              have hX55 : Ext w36 w36 := Ext.refl _
              refine cw_seq ?_
              refine cw_seq ?_
              refine cw_plain ?_
              refine pT (.int .i64 (((i : Nat) : Int) : Int)) ?_
              refine pT (.slice a n c) ?_
              refine pT (.int .i64 (((n : Nat) : Int) : Int)) ?_
              refine pl_take (.bool false) rfl (by kernel_rfl) (by kernel_rfl) (by kernel_rfl) (ev_ndec (show _ = Result.ok (Next.value (Value.bool (decide ((((i : Nat) : Int) : Int) < (((n : Nat) : Int) : Int))))) _ from by kernel_rfl) (by omega)) ?_
              refine pl_nil ?_
              refine qw_then ?_
              refine cw_f (by kernel_rfl) ?_
              refine cw_exit ?_
              refine qw_then_exit ?_
              refine qw_then_exit ?_
              refine qw_block_out ?_
              refine qw_then ?_
              refine cw_plain ?_
              refine pT (.slice aO kk cO) ?_
              refine pT (.slice (some ⟨bq, 0, none⟩) ((Mem.alive l t7).length) cq) ?_
              refine pl_step rfl (by kernel_rfl) (by kernel_rfl) (by kernel_rfl) (sn_newS (us := #[.slice (some ⟨bq, 0, none⟩) ((Mem.alive l t7).length) cq]) (t := 56) (k := 1) (c := 1) (by kernel_rfl) ?_)
              intro O56 X57 hO hOs hb hbx
              have hzO56 := hO; have hyO56 := hOs; clear hO hOs
              have bO56_0 : BoxAt X57 O56 0 (.slice (some ⟨bq, 0, none⟩) ((Mem.alive l t7).length) cq) := hbx 0 _ rfl
              clear hbx
              replace e0 := e0.trans hb
              replace hE := hE.trans hb
              replace hX11 := hX11.trans hb
              replace hX55 := hX55.trans hb
              have hs58 := hb.size
              clear hb
              have lt59 := bO56_0.lt
              have hol := Mem.outU_len l p
              have hbs70 := os9.base
              have hbk71 := os9.lt
              obtain ⟨g60, cap61, w62, hrun63, own64, hgr65, hgb66⟩ := own_app1k (P := Try.prog) (ty := 39) setT ((os9.ext hX11)) (Nat.le_trans hs8 (Nat.le_trans hs12 (Nat.le_trans hs23 (Nat.le_trans hs24 (Nat.le_trans hs35 hs58))))) (k := kk) hsl9 (O := O56) (c := 1) (x := Mem.alive l t7) (d := [.slice (some ⟨bq, 0, none⟩) ((Mem.alive l t7).length) cq]) (F := [bq]) rfl (cells1 (bO56_0.1)) (by simp [Value.oneCell']) (⟨⟨_, _, rfl, (hsq.ext hX55).2, hne9, rfl⟩, fresh1 (Nat.le_trans (Nat.le_trans hs8 (Nat.le_trans hs12 (Nat.le_trans hs23 hs24))) hbq)⟩) (away_cons (own_not2 hbk71 (Nat.le_trans (Nat.le_trans hs12 (Nat.le_trans hs23 hs24)) hbq)) (fun b hb => by cases hb)) (by omega) (by omega)
              refine pl_step rfl (by kernel_rfl) (by kernel_rfl) (by kernel_rfl) (sn_eff (v := .slice (some ⟨g60, 0, none⟩) (kk + 1) cap61) (w' := w62) (ex_append rfl (by kernel_rfl) (by kernel_rfl) hrun63) ?_)
              replace bO56_0 := BoxAt.grownR bO56_0 hgb66 (own_not2 hbk71 (Nat.le_trans (Nat.le_trans hs12 (Nat.le_trans hs23 (Nat.le_trans hs24 hs35))) (Nat.le_of_eq hzO56)))
              replace e0 := hgr65.ext _ e0 (Nat.le_trans hs0 hs7)
              replace hE := hgr65.ext _ hE hs7
              have hs67 := hgr65.size
              have hl68 := own64.base g60 rfl; have hh69 := own64.lt g60 rfl
              refine pT (.slice (some ⟨g60, 0, none⟩) (kk + 1) cap61) ?_
              refine pl_nil ?_
              refine qw_block ?_
              refine qw_round [0, 4, 5] (ws' := [(0, .slice a n c), (4, .slice (some ⟨g60, 0, none⟩) (kk + 1) cap61), (5, .int .i64 (t7 : Int))]) (by kernel_rfl) _ ?_ ⟨(p + 1), t7, (some ⟨g60, 0, none⟩), (kk + 1), cap61, rfl, rfl, (Nat.le_trans hs8 (Nat.le_trans hs12 (Nat.le_trans hs23 (Nat.le_trans hs24 (Nat.le_trans hs35 (Nat.le_trans hs58 hs67)))))), e0, hE, (by rw [Mem.outU_y hp (by rw [← ht7]; exact hmx.symm), ← ht7]; exact own64), by omega, (by rw [Mem.outU_y hp (by rw [← ht7]; exact hmx.symm), List.length_append, hsl9]; rfl), (by rw [ht7]; unfold Mem.lastB; rw [if_neg (by omega)]; rfl)⟩
              omega
      ·
        have hm1 := hB (by omega)
        refine cw_plain ?_
        refine pT (.int .i64 (t7 : Int)) ?_
        refine pl_take (.bool true) rfl (by kernel_rfl) (by kernel_rfl) (by kernel_rfl) (ev_dec (show _ = Result.ok (Next.value (Value.bool (decide ((t7 : Int) < (0 : Int))))) _ from by kernel_rfl) (by omega)) ?_
        refine pl_nil ?_
        refine qw_then ?_
        refine cw_t (by kernel_rfl) ?_
        refine cw_seq ?_
        refine cw_plain ?_
        refine pT (.slice aO kk cO) ?_
        refine pT (.slice aO kk cO) ?_
        refine pT (.int .i64 0) ?_
        refine pl_nil ?_
        refine qw_then ?_
        refine cw_ret ?_
        refine qw_then_ret ?_
        refine qw_block_ret ?_
        refine qw_then_ret ?_
        refine qw_block_ret ?_
        refine qw_ret [.slice aO kk cO, .int .i64 0] rfl ⟨(by kernel_rfl), (by kernel_rfl), trivial⟩ ?_
        rw [show Mem.rowsU l = Mem.rowsR l by unfold Mem.rowsU; rw [hok9]; rfl, hok9]
        have hol := Mem.outU_len l p
        have hoa := Mem.outU_all (l := l) (p := p) (by omega)
        have hos9 := (os9.ext hX11)
        rw [hoa] at hos9 hsl9 hol
        rcases Nat.eq_zero_or_pos kk with h0 | h0
        · exact ⟨_, _, _, rfl, ⟨hsl9, by omega, .inl h0⟩, hE⟩
        · obtain ⟨gs, fb, fc, rfl, hgs, hSV⟩ := own_sets hos9 hsl9 h0
          exact ⟨_, _, _, rfl, ⟨hsl9, by omega, .inr ⟨_, _, _, rfl, hSV⟩⟩, hE⟩
  ·
    refine pl_step rfl (by kernel_rfl) (by kernel_rfl) (by kernel_rfl) (sn_call (f := 19) (args := #[.slice a n c]) (by kernel_rfl) ((rValid_r (l := l) (r := false) _ _ h e0 hb5).mono ?_))
    rintro e w72 ⟨rfl, hb⟩
    replace e0 := e0.trans hb
    replace hE := hE.trans hb
    have hs73 := hb.size
    clear hb
    refine ⟨_, rfl, ?_⟩
    refine pT (.bool true) ?_
    refine pl_nil ?_
    refine qw_then ?_
    refine cw_t (by kernel_rfl) ?_
    refine cw_seq ?_
    refine cw_plain ?_
    refine pT (.slice none 0 0) ?_
    refine pT (.int .i64 110) ?_
    refine pl_nil ?_
    refine qw_then ?_
    refine cw_ret ?_
    refine qw_then_ret ?_
    refine qw_ret [.slice none 0 0, .int .i64 110] rfl ⟨(by kernel_rfl), (by kernel_rfl), trivial⟩ ?_
    rw [show Mem.rowsU l = [] by unfold Mem.rowsU; rw [hb5]; rfl, hb5]
    exact ⟨none, 0, 0, rfl, ⟨rfl, by omega, .inl rfl⟩, hE⟩

end Go.Proofs.Ytnbjjddfcondlaa

/- Openers of stored images, options, arrays of six ints, spells. -/
namespace Go.Proofs.Ytnbjjddfcondlaa
open Go.ChangeShapes Go.WideShapes Go.ChangeAt Go.RowKit Go.Deep
theorem choose_ltI {α : Type} [Inhabited α] {n : Nat} {p : Nat → α → Prop} (h : ∀ i, i < n → ∃ x, p i x) : ∃ f : Nat → α, ∀ i, i < n → p i (f i) := choose_lt11 h
/-- Images, or slots, that lie anywhere: their number is not bounded. -/
def StsR (w : World) (a : Option Addr) (n c : Nat) (l : List Mem.St) : Prop := n ≤ c ∧ c ≤ 9223372036854775807 ∧ l.length = n ∧ (n = 0 ∨ ∃ b o, a = some ⟨b, o, none⟩ ∧ ∀ (i : Nat) x, l[i]? = some x → StAt w b (o + i * 4) x)
def SlsR (w : World) (a : Option Addr) (n c : Nat) (l : List Mem.Slt) : Prop := n ≤ c ∧ c ≤ 9223372036854775807 ∧ l.length = n ∧ (n = 0 ∨ ∃ b o, a = some ⟨b, o, none⟩ ∧ ∀ (i : Nat) x, l[i]? = some x → SlAt w b (o + i * 3) x)
def Stored1 (v : Value) : Prop := ∃ x : Mem.St, v = .agg #[.int .i64 x.im, .int .i64 x.un, .int .i64 x.fr, .int .i64 x.to]
def Storeds (w : World) (v : Value) : Prop := ∃ (a : Option Addr) (n c : Nat) (l : List Mem.St), v = .slice a n c ∧ StsR w a n c l
def Spell1 (v : Value) : Prop := ∃ f t : Int, v = .agg #[.int .i64 f, .int .i64 t] ∧ IsI f ∧ IsI t
def Six1 (v : Value) : Prop := ∃ x0 x1 x2 x3 x4 x5 : Int, v = .agg #[.int .i64 x0, .int .i64 x1, .int .i64 x2, .int .i64 x3, .int .i64 x4, .int .i64 x5] ∧ IsI x0 ∧ IsI x1 ∧ IsI x2 ∧ IsI x3 ∧ IsI x4 ∧ IsI x5
def Option1 (w : World) (v : Value) : Prop := ∃ (o : Mem.Opt) (a : Option Addr) (n c : Nat), v = .agg #[.int .i64 o.id, .int .i64 o.od, .int .i64 o.cl, .int .i64 o.sa, .int .i64 o.fr, .int .i64 o.to, .int .i64 o.lk, .int .i64 o.sz, .slice a n c] ∧ SlsR w a n c o.sl

section
variable {H : Type} {enc : TypeId × Value → H} {W : World}
set_option maxRecDepth 100000 in
theorem spell_of {fuel : Nat} {cs : List Value} {x : DataW H × List MemPlace} (h : DataW.trod enc Try.prog W 0 (fun _ => true) true fuel 24 cs = some x) : ∃ f t : Int, cs = [.int .i64 f, .int .i64 t] ∧ IsI f ∧ IsI t := by
  obtain ⟨y0, y1, n, _, hl, hf0, hf1⟩ := Go.ChangeShapes.trod_struct2 Try.underlying24 h
  have h1 : Try.prog.cellsOf 24 = 2 := by kernel_rfl
  have hone : Try.prog.cellsOf 3 = 1 := by kernel_rfl
  obtain ⟨a, ea, _, wa⟩ := DataW.trod_int Try.underlying3 hf0
  obtain ⟨b, eb, _, wb⟩ := DataW.trod_int Try.underlying3 hf1
  rw [h1] at hl
  match cs, hl with
  | [u, v], _ =>
    have q1 : u = .int .i64 a := by simpa [hone] using ea
    have q2 : v = .int .i64 b := by simpa [hone] using eb
    exact ⟨a, b, by rw [q1, q2], isI_of_wf wa, isI_of_wf wb⟩
set_option maxRecDepth 100000 in
theorem slot_of {fuel : Nat} {cs : List Value} {x : DataW H × List MemPlace} (h : DataW.trod enc Try.prog W 0 (fun _ => true) true fuel 61 cs = some x) : ∃ y : Mem.Slt, cs = y.enc := by
  obtain ⟨y0, y1, n, _, hl, hf0, hf1⟩ := Go.ChangeShapes.trod_struct2 Try.underlying61 h
  have h1 : Try.prog.cellsOf 61 = 3 := by kernel_rfl
  have h2 : Try.prog.cellsOf 24 = 2 := by kernel_rfl
  have hone : Try.prog.cellsOf 3 = 1 := by kernel_rfl
  obtain ⟨a, ea, _, wa⟩ := DataW.trod_int Try.underlying3 hf0
  obtain ⟨f, t, e2, _, _⟩ := spell_of hf1
  rw [h1] at hl
  match cs, hl with
  | [u, v, z], _ =>
    have q1 : u = .int .i64 a := by simpa [hone] using ea
    have q2 : v = .int .i64 f ∧ z = .int .i64 t := by simpa [h2] using e2
    exact ⟨⟨a, f, t⟩, by rw [q1, q2.1, q2.2]; rfl⟩
set_option maxRecDepth 100000 in
theorem stored_of {fuel : Nat} {cs : List Value} {x : DataW H × List MemPlace} (h : DataW.trod enc Try.prog W 0 (fun _ => true) true fuel 26 cs = some x) : ∃ y : Mem.St, cs = y.enc := by
  obtain ⟨xs, n, _, _, hl, hxl, hg⟩ := DataW.trod_struct Try.underlying26 h
  have h1 : Try.prog.cellsOf 26 = 4 := by kernel_rfl
  have h2 : Try.prog.cellsOf 24 = 2 := by kernel_rfl
  have hone : Try.prog.cellsOf 3 = 1 := by kernel_rfl
  have hxl : xs.length = 3 := hxl
  have g0 := hg 0 _ rfl
  have g1 := hg 1 _ rfl
  have g2 := hg 2 _ rfl
  rw [List.getElem?_eq_getElem (show 0 < xs.length by omega)] at g0
  rw [List.getElem?_eq_getElem (show 1 < xs.length by omega)] at g1
  rw [List.getElem?_eq_getElem (show 2 < xs.length by omega)] at g2
  obtain ⟨a, ea, _, wa⟩ := DataW.trod_int Try.underlying3 g0
  obtain ⟨b, eb, _, wb⟩ := DataW.trod_int Try.underlying3 g1
  obtain ⟨f, t, e2, _, _⟩ := spell_of g2
  rw [h1] at hl
  match cs, hl with
  | [u, v, z, y], _ =>
    have q1 : u = .int .i64 a := by simpa [hone] using ea
    have q2 : v = .int .i64 b := by simpa [hone] using eb
    have q3 : z = .int .i64 f ∧ y = .int .i64 t := by simpa [h2] using e2
    exact ⟨⟨a, b, f, t⟩, by rw [q1, q2, q3.1, q3.2]; rfl⟩
set_option maxRecDepth 100000 in
theorem storeds_of {fuel : Nat} {cs0 : List Value} {x : DataW H × List MemPlace} (hf : DataW.trod enc Try.prog W 0 (fun _ => true) true fuel 27 cs0 = some x) :
    ∃ (a : Option Addr) (n c : Nat) (l : List Mem.St), cs0 = [.slice a n c] ∧ StsR W a n c l := by
  rcases open_slice Try.underlying27 hf with ⟨hcs, _⟩ | ⟨a', len, cap, m, k, D, Pl, hcs, hb, hl, hm, hmm, _, hx⟩
  · exact ⟨none, 0, 0, [], hcs, by omega, by omega, rfl, .inl rfl⟩
  · unfold maxLen at hm
    rcases Nat.eq_zero_or_pos len with h0 | h0
    · subst h0; exact ⟨_, _, _, [], hcs, by omega, by omega, rfl, .inl rfl⟩
    · have h4 : Try.prog.cellsOf 26 = 4 := by kernel_rfl
      rw [h4] at hx
      simp only [if_true] at hmm
      subst hmm
      have each : ∀ i, i < len → ∃ y : Mem.St, ∀ j u, j < 4 → y.enc[j]? = some u → W.cell? (a'.add (i * 4 + j)) = some u := fun i hi => by
        obtain ⟨cs', hc1, hc2⟩ := hx i (by omega)
        obtain ⟨_, hcl, hat⟩ := World.cells?_some hc1
        obtain ⟨y, rfl⟩ := stored_of hc2
        refine ⟨y, fun j u hj hu => ?_⟩
        rw [← Go.Deep.add_add, hat j hj]
        exact hu
      obtain ⟨q, hq⟩ := choose_ltI each
      obtain ⟨b, off, spot⟩ := a'
      have hspot : spot = none := by have := World.cell?_spot (hq 0 h0 0 _ (by omega) rfl); simpa [Addr.add] using this
      subst hspot
      refine ⟨_, len, _, (List.range len).map q, hcs, by omega, by omega, by simp, .inr ⟨b, off, rfl, fun i s hs => ?_⟩⟩
      obtain ⟨hi, e⟩ := List.getElem?_eq_some_iff.1 hs
      have hi' : i < len := by simpa using hi
      have e' : q i = s := by simpa using e
      subst e'
      have k : ∀ j u, j < 4 → (q i).enc[j]? = some u → W.cell? ⟨b, off + i * 4 + j, none⟩ = some u := fun j u hj hu => by
        have := hq i hi' j u hj hu
        rw [add_plain, ← Nat.add_assoc] at this
        exact this
      exact ⟨k 0 _ (by omega) rfl, k 1 _ (by omega) rfl, k 2 _ (by omega) rfl, k 3 _ (by omega) rfl⟩
set_option maxRecDepth 100000 in
theorem slots_of {fuel : Nat} {cs0 : List Value} {x : DataW H × List MemPlace} (hf : DataW.trod enc Try.prog W 0 (fun _ => true) true fuel 29 cs0 = some x) :
    ∃ (a : Option Addr) (n c : Nat) (l : List Mem.Slt), cs0 = [.slice a n c] ∧ SlsR W a n c l := by
  rcases open_slice Try.underlying29 hf with ⟨hcs, _⟩ | ⟨a', len, cap, m, k, D, Pl, hcs, hb, hl, hm, hmm, _, hx⟩
  · exact ⟨none, 0, 0, [], hcs, by omega, by omega, rfl, .inl rfl⟩
  · unfold maxLen at hm
    rcases Nat.eq_zero_or_pos len with h0 | h0
    · subst h0; exact ⟨_, _, _, [], hcs, by omega, by omega, rfl, .inl rfl⟩
    · have h4 : Try.prog.cellsOf 61 = 3 := by kernel_rfl
      rw [h4] at hx
      simp only [if_true] at hmm
      subst hmm
      have each : ∀ i, i < len → ∃ y : Mem.Slt, ∀ j u, j < 3 → y.enc[j]? = some u → W.cell? (a'.add (i * 3 + j)) = some u := fun i hi => by
        obtain ⟨cs', hc1, hc2⟩ := hx i (by omega)
        obtain ⟨_, hcl, hat⟩ := World.cells?_some hc1
        obtain ⟨y, rfl⟩ := slot_of hc2
        refine ⟨y, fun j u hj hu => ?_⟩
        rw [← Go.Deep.add_add, hat j hj]
        exact hu
      obtain ⟨q, hq⟩ := choose_ltI each
      obtain ⟨b, off, spot⟩ := a'
      have hspot : spot = none := by have := World.cell?_spot (hq 0 h0 0 _ (by omega) rfl); simpa [Addr.add] using this
      subst hspot
      refine ⟨_, len, _, (List.range len).map q, hcs, by omega, by omega, by simp, .inr ⟨b, off, rfl, fun i s hs => ?_⟩⟩
      obtain ⟨hi, e⟩ := List.getElem?_eq_some_iff.1 hs
      have hi' : i < len := by simpa using hi
      have e' : q i = s := by simpa using e
      subst e'
      have k : ∀ j u, j < 3 → (q i).enc[j]? = some u → W.cell? ⟨b, off + i * 3 + j, none⟩ = some u := fun j u hj hu => by
        have := hq i hi' j u hj hu
        rw [add_plain, ← Nat.add_assoc] at this
        exact this
      exact ⟨k 0 _ (by omega) rfl, k 1 _ (by omega) rfl, k 2 _ (by omega) rfl⟩
set_option maxRecDepth 100000 in
theorem option_of {fuel : Nat} {cs : List Value} {x : DataW H × List MemPlace} (h : DataW.trod enc Try.prog W 0 (fun _ => true) true fuel 31 cs = some x) : ∃ (o : Mem.Opt) (a : Option Addr) (n c : Nat), cs = [.int .i64 o.id, .int .i64 o.od, .int .i64 o.cl, .int .i64 o.sa, .int .i64 o.fr, .int .i64 o.to, .int .i64 o.lk, .int .i64 o.sz, .slice a n c] ∧ SlsR W a n c o.sl := by
  obtain ⟨xs, n, _, _, hl, hxl, hg⟩ := DataW.trod_struct Try.underlying31 h
  have h1 : Try.prog.cellsOf 31 = 9 := by kernel_rfl
  have h2 : Try.prog.cellsOf 24 = 2 := by kernel_rfl
  have h3 : Try.prog.cellsOf 29 = 1 := by kernel_rfl
  have hone : Try.prog.cellsOf 3 = 1 := by kernel_rfl
  have hxl : xs.length = 8 := hxl
  have g0 := hg 0 _ rfl
  have g1 := hg 1 _ rfl
  have g2 := hg 2 _ rfl
  have g3 := hg 3 _ rfl
  have g4 := hg 4 _ rfl
  have g5 := hg 5 _ rfl
  have g6 := hg 6 _ rfl
  have g7 := hg 7 _ rfl
  rw [List.getElem?_eq_getElem (show 0 < xs.length by omega)] at g0
  rw [List.getElem?_eq_getElem (show 1 < xs.length by omega)] at g1
  rw [List.getElem?_eq_getElem (show 2 < xs.length by omega)] at g2
  rw [List.getElem?_eq_getElem (show 3 < xs.length by omega)] at g3
  rw [List.getElem?_eq_getElem (show 4 < xs.length by omega)] at g4
  rw [List.getElem?_eq_getElem (show 5 < xs.length by omega)] at g5
  rw [List.getElem?_eq_getElem (show 6 < xs.length by omega)] at g6
  rw [List.getElem?_eq_getElem (show 7 < xs.length by omega)] at g7
  obtain ⟨a0, e0, _, _⟩ := DataW.trod_int Try.underlying3 g0
  obtain ⟨a1, e1, _, _⟩ := DataW.trod_int Try.underlying3 g1
  obtain ⟨a2, e2, _, _⟩ := DataW.trod_int Try.underlying3 g2
  obtain ⟨a3, e3, _, _⟩ := DataW.trod_int Try.underlying3 g3
  obtain ⟨a5, e5, _, _⟩ := DataW.trod_int Try.underlying3 g5
  obtain ⟨a6, e6, _, _⟩ := DataW.trod_int Try.underlying3 g6
  obtain ⟨f, t, e4, _, _⟩ := spell_of g4
  obtain ⟨a, m, c, l, e7, hs⟩ := slots_of g7
  rw [h1] at hl
  match cs, hl with
  | [u0, u1, u2, u3, u4, u5, u6, u7, u8], _ =>
    have q0 : u0 = .int .i64 a0 := by simpa [hone] using e0
    have q1 : u1 = .int .i64 a1 := by simpa [hone] using e1
    have q2 : u2 = .int .i64 a2 := by simpa [hone] using e2
    have q3 : u3 = .int .i64 a3 := by simpa [hone] using e3
    have q4 : u4 = .int .i64 f ∧ u5 = .int .i64 t := by simpa [h2] using e4
    have q6 : u6 = .int .i64 a5 := by simpa [hone] using e5
    have q7 : u7 = .int .i64 a6 := by simpa [hone] using e6
    have q8 : u8 = .slice a m c := by simpa [h3] using e7
    exact ⟨⟨a0, a1, a2, a3, f, t, a5, a6, l⟩, a, m, c, by rw [q0, q1, q2, q3, q4.1, q4.2, q6, q7, q8], hs⟩
set_option maxRecDepth 100000 in
theorem open_stored {b0 : Nat} {v : Value} {d : DataW H} {p : List MemPlace} (hval : Value.okWide Try.prog W .any b0 26 v) (h : DataW.Trod enc Try.prog W 0 (fun _ => true) true 26 v d p) : Stored1 v := by
  obtain ⟨cs, rfl, hsz⟩ := okWide_struct Try.underlying26 hval
  obtain ⟨fuel, hf⟩ := h
  obtain ⟨y, e⟩ := stored_of hf
  refine ⟨y, ?_⟩
  have : cs.toList = y.enc := by simpa [Value.cells] using e
  rw [← Array.toArray_toList (xs := cs), this]; rfl
set_option maxRecDepth 100000 in
theorem open_spell1 {b0 : Nat} {v : Value} {d : DataW H} {p : List MemPlace} (hval : Value.okWide Try.prog W .any b0 24 v) (h : DataW.Trod enc Try.prog W 0 (fun _ => true) true 24 v d p) : Spell1 v := by
  obtain ⟨cs, rfl, hsz⟩ := okWide_struct Try.underlying24 hval
  obtain ⟨fuel, hf⟩ := h
  obtain ⟨f, t, e, wf, wt⟩ := spell_of hf
  refine ⟨f, t, ?_, wf, wt⟩
  have : cs.toList = [.int .i64 f, .int .i64 t] := by simpa [Value.cells] using e
  rw [← Array.toArray_toList (xs := cs), this]
set_option maxRecDepth 100000 in
theorem open_option {b0 : Nat} {v : Value} {d : DataW H} {p : List MemPlace} (hval : Value.okWide Try.prog W .any b0 31 v) (h : DataW.Trod enc Try.prog W 0 (fun _ => true) true 31 v d p) : Option1 W v := by
  obtain ⟨cs, rfl, hsz⟩ := okWide_struct Try.underlying31 hval
  obtain ⟨fuel, hf⟩ := h
  obtain ⟨o, a, n, c, e, hs⟩ := option_of hf
  refine ⟨o, a, n, c, ?_, hs⟩
  have : cs.toList = [.int .i64 o.id, .int .i64 o.od, .int .i64 o.cl, .int .i64 o.sa, .int .i64 o.fr, .int .i64 o.to, .int .i64 o.lk, .int .i64 o.sz, .slice a n c] := by simpa [Value.cells] using e
  rw [← Array.toArray_toList (xs := cs), this]
set_option maxRecDepth 100000 in
theorem open_storeds {b0 : Nat} {v : Value} {d : DataW H} {p : List MemPlace} (hval : Value.okWide Try.prog W .any b0 27 v) (h : DataW.Trod enc Try.prog W 0 (fun _ => true) true 27 v d p) : Storeds W v := by
  obtain ⟨a, n, c, rfl⟩ := okWide_slice Try.underlying27 hval
  obtain ⟨fuel, hf⟩ := h
  obtain ⟨a', n', c', l, e, hs⟩ := storeds_of hf
  simp [Value.cells] at e
  obtain ⟨rfl, rfl, rfl⟩ := e
  exact ⟨_, _, _, l, rfl, hs⟩
set_option maxRecDepth 100000 in
theorem open_six {b0 : Nat} {v : Value} {d : DataW H} {p : List MemPlace} (hval : Value.okWide Try.prog W .any b0 28 v) (h : DataW.Trod enc Try.prog W 0 (fun _ => true) true 28 v d p) : Six1 v := by
  have hu := Try.underlying28
  simp only [Value.okWide, hu] at hval
  obtain ⟨cs, rfl, hsz, _⟩ := hval
  have h2 : Try.prog.cellsOf 28 = 6 := by kernel_rfl
  obtain ⟨fuel, hf⟩ := h
  have hl : cs.toList.length = 6 := by rw [Array.length_toList, hsz, h2]
  obtain ⟨q, hq⟩ := ints_of_array hu hf (by simpa [Value.cells] using hl)
  obtain ⟨l⟩ := cs
  match l, hl with
  | [x0, x1, x2, x3, x4, x5], _ =>
    have e0 := hq 0 (by omega)
    have e1 := hq 1 (by omega)
    have e2 := hq 2 (by omega)
    have e3 := hq 3 (by omega)
    have e4 := hq 4 (by omega)
    have e5 := hq 5 (by omega)
    simp [Value.cells] at e0 e1 e2 e3 e4 e5
    exact ⟨q 0, q 1, q 2, q 3, q 4, q 5, by rw [e0.1, e1.1, e2.1, e3.1, e4.1, e5.1], e0.2, e1.2, e2.2, e3.2, e4.2, e5.2⟩
end
theorem StsR.take {w : World} {a : Option Addr} {n c : Nat} {l : List Mem.St} (h : StsR w a n c l) {m : Nat} (hm : m ≤ n) (h25 : m ≤ 1000) : StsAt w a m (l.take m) := by
  obtain ⟨_, _, h3, h4⟩ := h
  refine ⟨by rw [List.length_take]; omega, by omega, ?_⟩
  rcases h4 with h4 | ⟨b, o, ha, hx⟩
  · exact .inl (by omega)
  · refine .inr ⟨b, o, ha, fun i x hi => hx i x ?_⟩
    rw [List.getElem?_take] at hi
    split at hi
    · exact hi
    · cases hi
theorem SlsR.take {w : World} {a : Option Addr} {n c : Nat} {l : List Mem.Slt} (h : SlsR w a n c l) {m : Nat} (hm : m ≤ n) (h25 : m ≤ 1000) : SlsAt w a m (l.take m) := by
  obtain ⟨_, _, h3, h4⟩ := h
  refine ⟨by rw [List.length_take]; omega, by omega, ?_⟩
  rcases h4 with h4 | ⟨b, o, ha, hx⟩
  · exact .inl (by omega)
  · refine .inr ⟨b, o, ha, fun i x hi => hx i x ?_⟩
    rw [List.getElem?_take] at hi
    split at hi
    · exact hi
    · cases hi
end Go.Proofs.Ytnbjjddfcondlaa

/- What MemoryMatchesReference uses. -/
namespace Go.Proofs.Ytnbjjddfcondlaa
open Go.RowKit

theorem own_at {α : Type} {R : Rep α} {n₀ e size n cap : Nat} {a : Option Addr} {w : World} {l : List α} (h : OwnL R n₀ e size (.slice a n cap) w l) (hl : l.length = n) (h0 : 0 < n) : ∃ b, a = some ⟨b, 0, none⟩ ∧ n₀ ≤ b := by
  subst hl
  have hb := h.base
  obtain ⟨cs, h1, h2, h3, h4⟩ := h
  rcases h3.2 with ⟨q1, q2⟩ | ⟨g, cap', cur, q1, _⟩
  · injection q1 with r1 r2 r3; omega
  · injection q1 with r1 r2 r3
    subst r1
    exact ⟨g, rfl, hb g rfl⟩
theorem own_boxes {n₀ e g n cap : Nat} {w : World} {l : List Mem.St} (h : OwnL stR n₀ e 4 (.slice (some ⟨g, 0, none⟩) n cap) w l) (hl : l.length = n) : ∀ (i : Nat) x, l[i]? = some x → BoxAt w g (i * 4) (.int .i64 x.im) ∧ BoxAt w g (i * 4 + 1) (.int .i64 x.un) ∧ BoxAt w g (i * 4 + 2) (.int .i64 x.fr) ∧ BoxAt w g (i * 4 + 3) (.int .i64 x.to) := by
  subst hl
  obtain ⟨cs, h1, h2, h3, h4⟩ := h
  intro i x hx
  have hi := (List.getElem?_eq_some_iff.1 hx).1
  have hc := List.getElem?_eq_getElem (l := cs) (i := i) (by omega)
  obtain ⟨F, ⟨e1, _⟩, _⟩ := h4 i _ _ hx hc
  have k : ∀ q u, q < 4 → x.enc[q]? = some u → BoxAt w g (i * 4 + q) u := fun q u hq hu => by
    have f := flatten_get h2 i hc q hq
    rw [e1, hu] at f
    have := own_cell9 h3 (by omega) f
    rw [Nat.zero_add] at this
    exact ⟨this, h3.frozenAt _⟩
  exact ⟨k 0 _ (by omega) rfl, k 1 _ (by omega) rfl, k 2 _ (by omega) rfl, k 3 _ (by omega) rfl⟩
theorem set_sts {W X : World} {b k n : Nat} {l : List Mem.St} {y : Mem.St} (hbx : ∀ (i : Nat) x, l[i]? = some x → BoxAt W b (i * 4) (.int .i64 x.im) ∧ BoxAt W b (i * 4 + 1) (.int .i64 x.un) ∧ BoxAt W b (i * 4 + 2) (.int .i64 x.fr) ∧ BoxAt W b (i * 4 + 3) (.int .i64 x.to)) (hlt : k < l.length) (hv : BoxAt X b (k * 4) (.int .i64 y.im) ∧ BoxAt X b (k * 4 + 1) (.int .i64 y.un) ∧ BoxAt X b (k * 4 + 2) (.int .i64 y.fr) ∧ BoxAt X b (k * 4 + 3) (.int .i64 y.to)) (hk : ∀ i x, i ≠ k * 4 → i ≠ k * 4 + 1 → i ≠ k * 4 + 2 → i ≠ k * 4 + 3 → BoxAt W b i x → BoxAt X b i x) (hl : l.length = n) (hn : n ≤ 1000) : StsAt X (some ⟨b, 0, none⟩) n (l.set k y) := by
  refine ⟨by rw [List.length_set]; exact hl, by omega, .inr ⟨b, 0, rfl, fun i x hi => ?_⟩⟩
  rw [Nat.zero_add]
  by_cases e : i = k
  · subst e
    rw [List.getElem?_set_self hlt] at hi
    cases hi
    exact ⟨hv.1.1, hv.2.1.1, hv.2.2.1.1, hv.2.2.2.1⟩
  · rw [List.getElem?_set_ne (Ne.symm e)] at hi
    obtain ⟨c0, c1, c2, c3⟩ := hbx i x hi
    exact ⟨(hk _ _ (by omega) (by omega) (by omega) (by omega) c0).1, (hk _ _ (by omega) (by omega) (by omega) (by omega) c1).1, (hk _ _ (by omega) (by omega) (by omega) (by omega) c2).1, (hk _ _ (by omega) (by omega) (by omega) (by omega) c3).1⟩
theorem sel3L {w : World} {O j : Nat} {a0 a1 a2 : Option Addr} {n0 n1 n2 c0 c1 c2 : Nat} {l0 l1 l2 : List Mem.St} (hj : j < 3) (b0 : w.cell? ⟨O, 0, none⟩ = some (.slice a0 n0 c0)) (h0 : StsAt w a0 n0 l0) (b1 : w.cell? ⟨O, 1, none⟩ = some (.slice a1 n1 c1)) (h1 : StsAt w a1 n1 l1) (b2 : w.cell? ⟨O, 2, none⟩ = some (.slice a2 n2 c2)) (h2 : StsAt w a2 n2 l2) :
    ∃ a n c l, w.cell? ⟨O, j, none⟩ = some (.slice a n c) ∧ StsAt w a n l := by
  match j, hj with
  | 0, _ => exact ⟨_, _, _, _, b0, h0⟩
  | 1, _ => exact ⟨_, _, _, _, b1, h1⟩
  | 2, _ => exact ⟨_, _, _, _, b2, h2⟩
theorem sel2P {w : World} {O j : Nat} {p0 q0 p1 q1 : Int} (hj : j < 2) (b0 : w.cell? ⟨O, 0, none⟩ = some (.int .i64 p0)) (b1 : w.cell? ⟨O, 1, none⟩ = some (.int .i64 q0)) (b2 : w.cell? ⟨O, 2, none⟩ = some (.int .i64 p1)) (b3 : w.cell? ⟨O, 3, none⟩ = some (.int .i64 q1)) :
    ∃ p q : Int, w.cell? ⟨O, j * 2, none⟩ = some (.int .i64 p) ∧ w.cell? ⟨O, j * 2 + 1, none⟩ = some (.int .i64 q) := by
  match j, hj with
  | 0, _ => exact ⟨_, _, b0, b1⟩
  | 1, _ => exact ⟨_, _, b2, b3⟩
theorem sel2I {w : World} {O j : Nat} {p0 p1 : Int} (hj : j < 2) (b0 : w.cell? ⟨O, 0, none⟩ = some (.int .i64 p0)) (b1 : w.cell? ⟨O, 1, none⟩ = some (.int .i64 p1)) : ∃ p : Int, w.cell? ⟨O, j, none⟩ = some (.int .i64 p) := by
  match j, hj with
  | 0, _ => exact ⟨_, b0⟩
  | 1, _ => exact ⟨_, b1⟩
theorem sel2O {w : World} {O j : Nat} (hj : j < 2) {x y : Mem.Opt} (h0 : OptAt w O 0 x) (h1 : OptAt w O 9 y) : ∃ o : Mem.Opt, OptAt w O (j * 9) o := by
  match j, hj with
  | 0, _ => exact ⟨_, h0⟩
  | 1, _ => exact ⟨_, h1⟩
theorem six1 {w : World} {O : Nat} {x0 x1 x2 x3 x4 x5 : Int} (b0 : w.cell? ⟨O, 0, none⟩ = some (.int .i64 x0)) (i0 : IsI x0) (b1 : w.cell? ⟨O, 1, none⟩ = some (.int .i64 x1)) (i1 : IsI x1) (b2 : w.cell? ⟨O, 2, none⟩ = some (.int .i64 x2)) (i2 : IsI x2) (b3 : w.cell? ⟨O, 3, none⟩ = some (.int .i64 x3)) (i3 : IsI x3) (b4 : w.cell? ⟨O, 4, none⟩ = some (.int .i64 x4)) (i4 : IsI x4) (b5 : w.cell? ⟨O, 5, none⟩ = some (.int .i64 x5)) (i5 : IsI x5) : SixAt w (some ⟨O, 0, none⟩) 1 (fun _ j => [x0, x1, x2, x3, x4, x5][j]?.getD 0) := .inr ⟨O, 0, rfl, fun i hi j hj => by
  obtain rfl : i = 0 := by omega
  match j, hj with
  | 0, _ => exact ⟨b0, i0⟩
  | 1, _ => exact ⟨b1, i1⟩
  | 2, _ => exact ⟨b2, i2⟩
  | 3, _ => exact ⟨b3, i3⟩
  | 4, _ => exact ⟨b4, i4⟩
  | 5, _ => exact ⟨b5, i5⟩⟩
theorem rowsU_len (l : List Mem.St) (i : Nat) : (snN (Mem.rowsU l) i).length ≤ 1000000 := by
  unfold Mem.rowsU
  split
  · rename_i h
    have := Mem.row_len (l := l) i; have := Mem.okL_len h; omega
  · unfold snN; simp
theorem optsAt_0 {w : World} {a : Option Addr} {k : Nat} {l : List Mem.Opt} (h : OptsAt w a k l) (hk : 0 < k) : ∃ b o x, a = some ⟨b, o, none⟩ ∧ OptAt w b o x := by
  obtain ⟨h1, _, h3⟩ := h
  rcases h3 with h3 | ⟨b, o, ha, hx⟩
  · omega
  · have := hx 0 _ (List.getElem?_eq_getElem (by omega))
    exact ⟨b, o, _, ha, by simpa using this⟩
def Mem.few (o : Mem.Opt) (m : Nat) : Mem.Opt := ⟨o.id, o.od, o.cl, o.sa, o.fr, o.to, o.lk, o.sz, o.sl.take m⟩
set_option maxRecDepth 1000000 in
set_option maxHeartbeats 4000000 in
theorem few_c {o : Mem.Opt} {a : Option Addr} {n c : Nat} (w : World) (hnc : n ≤ c) (_hcm : c ≤ 9223372036854775807) : Calls Try.prog 27 #[.agg #[.int .i64 o.id, .int .i64 o.od, .int .i64 o.cl, .int .i64 o.sa, .int .i64 o.fr, .int .i64 o.to, .int .i64 o.lk, .int .i64 o.sz, .slice a n c]] w fun e w' => e = .returned (.agg #[.int .i64 o.id, .int .i64 o.od, .int .i64 o.cl, .int .i64 o.sa, .int .i64 o.fr, .int .i64 o.to, .int .i64 o.lk, .int .i64 o.sz, .slice a (min n 7) c]) ∧ Ext w w' := by
  refine calls_cw 12 [(0, .agg #[.int .i64 (o.id : Int), .int .i64 (o.od : Int), .int .i64 (o.cl : Int), .int .i64 (o.sa : Int), .int .i64 (o.fr : Int), .int .i64 (o.to : Int), .int .i64 (o.lk : Int), .int .i64 (o.sz : Int), .slice a n c])] Try.func27 rfl Try.ntmps27 (by kernel_rfl) (by kernel_rfl) (fun L => ?_)
  have hE : Ext w w := Ext.refl w
  refine cw_seq ?_
  refine cw_plain ?_
  refine pl_step rfl (by kernel_rfl) (by kernel_rfl) (by kernel_rfl) (sn_new (us := #[.int .i64 (o.id : Int), .int .i64 (o.od : Int), .int .i64 (o.cl : Int), .int .i64 (o.sa : Int), .int .i64 (o.fr : Int), .int .i64 (o.to : Int), .int .i64 (o.lk : Int), .int .i64 (o.sz : Int), .slice a n c]) (t := 31) (by kernel_rfl) ?_)
  intro O5 X6 hO hOs hb hbx
  have hzO5 := hO; have hyO5 := hOs; clear hO hOs
  have bO5_0 : BoxAt X6 O5 0 (.int .i64 (o.id : Int)) := hbx 0 _ rfl
  have bO5_1 : BoxAt X6 O5 1 (.int .i64 (o.od : Int)) := hbx 1 _ rfl
  have bO5_2 : BoxAt X6 O5 2 (.int .i64 (o.cl : Int)) := hbx 2 _ rfl
  have bO5_3 : BoxAt X6 O5 3 (.int .i64 (o.sa : Int)) := hbx 3 _ rfl
  have bO5_4 : BoxAt X6 O5 4 (.int .i64 (o.fr : Int)) := hbx 4 _ rfl
  have bO5_5 : BoxAt X6 O5 5 (.int .i64 (o.to : Int)) := hbx 5 _ rfl
  have bO5_6 : BoxAt X6 O5 6 (.int .i64 (o.lk : Int)) := hbx 6 _ rfl
  have bO5_7 : BoxAt X6 O5 7 (.int .i64 (o.sz : Int)) := hbx 7 _ rfl
  have bO5_8 : BoxAt X6 O5 8 (.slice a n c) := hbx 8 _ rfl
  clear hbx
  replace hE := hE.trans hb
  have hs7 := hb.size
  clear hb
  have lt8 := bO5_0.lt
  refine pl_step rfl (by kernel_rfl) (by kernel_rfl) (by kernel_rfl) (sn_new (us := #[.int .i64 0, .int .i64 0, .int .i64 0, .int .i64 0, .int .i64 0, .int .i64 0, .int .i64 0, .int .i64 0, .slice none 0 0]) (t := 31) (by kernel_rfl) ?_)
  intro O9 X10 hO hOs hb hbx
  have hzO9 := hO; have hyO9 := hOs; clear hO hOs
  have bO9_0 : BoxAt X10 O9 0 (.int .i64 0) := hbx 0 _ rfl
  have bO9_1 : BoxAt X10 O9 1 (.int .i64 0) := hbx 1 _ rfl
  have bO9_2 : BoxAt X10 O9 2 (.int .i64 0) := hbx 2 _ rfl
  have bO9_3 : BoxAt X10 O9 3 (.int .i64 0) := hbx 3 _ rfl
  have bO9_4 : BoxAt X10 O9 4 (.int .i64 0) := hbx 4 _ rfl
  have bO9_5 : BoxAt X10 O9 5 (.int .i64 0) := hbx 5 _ rfl
  have bO9_6 : BoxAt X10 O9 6 (.int .i64 0) := hbx 6 _ rfl
  have bO9_7 : BoxAt X10 O9 7 (.int .i64 0) := hbx 7 _ rfl
  have bO9_8 : BoxAt X10 O9 8 (.slice none 0 0) := hbx 8 _ rfl
  clear hbx
  replace hE := hE.trans hb
  replace bO5_0 := BoxAt.ext hb bO5_0
  replace bO5_1 := BoxAt.ext hb bO5_1
  replace bO5_2 := BoxAt.ext hb bO5_2
  replace bO5_3 := BoxAt.ext hb bO5_3
  replace bO5_4 := BoxAt.ext hb bO5_4
  replace bO5_5 := BoxAt.ext hb bO5_5
  replace bO5_6 := BoxAt.ext hb bO5_6
  replace bO5_7 := BoxAt.ext hb bO5_7
  replace bO5_8 := BoxAt.ext hb bO5_8
  have hs11 := hb.size
  clear hb
  have lt12 := bO9_0.lt
  refine pl_nil ?_
  refine qw_then ?_
  refine cw_seq ?_
  refine cw_plain ?_
  refine pT (.pointer (some ⟨O5, 8, none⟩)) ?_
  refine pl_take (.slice a n c) rfl (by kernel_rfl) (by kernel_rfl) (by kernel_rfl) (ex_load rfl (by kernel_rfl) (ld29 (bO5_8.1))) ?_
  refine pT (.pointer (some ⟨O5, 8, none⟩)) ?_
  refine pl_take (.slice a n c) rfl (by kernel_rfl) (by kernel_rfl) (by kernel_rfl) (ex_load rfl (by kernel_rfl) (ld29 (bO5_8.1))) ?_
  refine pT (.int .i64 (((n : Nat) : Int) : Int)) ?_
  refine pl_take (.int .i64 (((min n 7 : Nat) : Int) : Int)) rfl (by kernel_rfl) (by kernel_rfl) (by kernel_rfl) (ev_int (show _ = Result.ok (Next.value (Value.int .i64 (if (7 : Int) < (((n : Nat) : Int) : Int) then (7 : Int) else (((n : Nat) : Int) : Int)))) _ from by kernel_rfl) (by split <;> omega)) ?_
  refine pl_take (.slice a (min n 7) c) rfl (by kernel_rfl) (by kernel_rfl) (by kernel_rfl) (ex_slice (p := .slice a n c) rfl (by kernel_rfl) (by kernel_rfl) (by kernel_rfl) (by kernel_rfl) (sl29_010a (m := min n 7) (by omega) (by omega))) ?_
  refine pT (.pointer (some ⟨O5, 8, none⟩)) ?_
  refine pl_put rfl (by kernel_rfl) (by kernel_rfl) (sn_set (O := O5) (j := 8) (v := .slice a (min n 7) c) (ex_store (p := .pointer (some ⟨O5, 8, none⟩)) (v := .slice a (min n 7) c) rfl (by kernel_rfl) (by kernel_rfl) (st29 bO5_8.1 bO5_8.2)) bO5_8 ?_)
  intro X13 ho hv0 hk
  replace hE := ho.ext hE (Nat.le_of_eq hzO5)
  replace bO5_0 := hk 0 _ (by omega) bO5_0
  replace bO5_1 := hk 1 _ (by omega) bO5_1
  replace bO5_2 := hk 2 _ (by omega) bO5_2
  replace bO5_3 := hk 3 _ (by omega) bO5_3
  replace bO5_4 := hk 4 _ (by omega) bO5_4
  replace bO5_5 := hk 5 _ (by omega) bO5_5
  replace bO5_6 := hk 6 _ (by omega) bO5_6
  replace bO5_7 := hk 7 _ (by omega) bO5_7
  replace bO9_0 := ho.box (Nat.ne_of_lt (Nat.lt_of_lt_of_le lt8 (Nat.le_of_eq hzO9))) bO9_0
  replace bO9_1 := ho.box (Nat.ne_of_lt (Nat.lt_of_lt_of_le lt8 (Nat.le_of_eq hzO9))) bO9_1
  replace bO9_2 := ho.box (Nat.ne_of_lt (Nat.lt_of_lt_of_le lt8 (Nat.le_of_eq hzO9))) bO9_2
  replace bO9_3 := ho.box (Nat.ne_of_lt (Nat.lt_of_lt_of_le lt8 (Nat.le_of_eq hzO9))) bO9_3
  replace bO9_4 := ho.box (Nat.ne_of_lt (Nat.lt_of_lt_of_le lt8 (Nat.le_of_eq hzO9))) bO9_4
  replace bO9_5 := ho.box (Nat.ne_of_lt (Nat.lt_of_lt_of_le lt8 (Nat.le_of_eq hzO9))) bO9_5
  replace bO9_6 := ho.box (Nat.ne_of_lt (Nat.lt_of_lt_of_le lt8 (Nat.le_of_eq hzO9))) bO9_6
  replace bO9_7 := ho.box (Nat.ne_of_lt (Nat.lt_of_lt_of_le lt8 (Nat.le_of_eq hzO9))) bO9_7
  replace bO9_8 := ho.box (Nat.ne_of_lt (Nat.lt_of_lt_of_le lt8 (Nat.le_of_eq hzO9))) bO9_8
  have hs14 : X10.heap.size ≤ X13.heap.size := Nat.le_of_eq ho.size.symm
  clear ho hk bO5_8
  have bO5_8 := hv0; clear hv0
  refine pl_nil ?_
  refine qw_then ?_
  refine cw_seq ?_
  refine cw_plain ?_
  refine pl_take (.agg #[.int .i64 (o.id : Int), .int .i64 (o.od : Int), .int .i64 (o.cl : Int), .int .i64 (o.sa : Int), .int .i64 (o.fr : Int), .int .i64 (o.to : Int), .int .i64 (o.lk : Int), .int .i64 (o.sz : Int), .slice a (min n 7) c]) rfl (by kernel_rfl) (by kernel_rfl) (by kernel_rfl) (ex_load rfl (by kernel_rfl) (ld31 (bO5_0.1) (bO5_1.1) (bO5_2.1) (bO5_3.1) (bO5_4.1) (bO5_5.1) (bO5_6.1) (bO5_7.1) (bO5_8.1))) ?_
  refine pl_put rfl (by kernel_rfl) (by kernel_rfl) (sn_setK9 (O := O9) (j := 0) (v0 := .int .i64 (o.id : Int)) (v1 := .int .i64 (o.od : Int)) (v2 := .int .i64 (o.cl : Int)) (v3 := .int .i64 (o.sa : Int)) (v4 := .int .i64 (o.fr : Int)) (v5 := .int .i64 (o.to : Int)) (v6 := .int .i64 (o.lk : Int)) (v7 := .int .i64 (o.sz : Int)) (v8 := .slice a (min n 7) c) (ex_store (p := .pointer (some ⟨O9, 0, none⟩)) (v := .agg #[.int .i64 (o.id : Int), .int .i64 (o.od : Int), .int .i64 (o.cl : Int), .int .i64 (o.sa : Int), .int .i64 (o.fr : Int), .int .i64 (o.to : Int), .int .i64 (o.lk : Int), .int .i64 (o.sz : Int), .slice a (min n 7) c]) rfl (by kernel_rfl) (by kernel_rfl) (st31 bO9_0.1 bO9_0.2 bO9_1.1 bO9_1.2 bO9_2.1 bO9_2.2 bO9_3.1 bO9_3.2 bO9_4.1 bO9_4.2 bO9_5.1 bO9_5.2 bO9_6.1 bO9_6.2 bO9_7.1 bO9_7.2 bO9_8.1 bO9_8.2)) bO9_0 bO9_1 bO9_2 bO9_3 bO9_4 bO9_5 bO9_6 bO9_7 bO9_8 ?_)
  intro X15 ho hv0 hv1 hv2 hv3 hv4 hv5 hv6 hv7 hv8 hk
  replace hE := ho.ext hE (Nat.le_trans hs7 (Nat.le_of_eq hzO9))
  replace bO5_0 := ho.box (Nat.ne_of_gt (Nat.lt_of_lt_of_le lt8 (Nat.le_of_eq hzO9))) bO5_0
  replace bO5_1 := ho.box (Nat.ne_of_gt (Nat.lt_of_lt_of_le lt8 (Nat.le_of_eq hzO9))) bO5_1
  replace bO5_2 := ho.box (Nat.ne_of_gt (Nat.lt_of_lt_of_le lt8 (Nat.le_of_eq hzO9))) bO5_2
  replace bO5_3 := ho.box (Nat.ne_of_gt (Nat.lt_of_lt_of_le lt8 (Nat.le_of_eq hzO9))) bO5_3
  replace bO5_4 := ho.box (Nat.ne_of_gt (Nat.lt_of_lt_of_le lt8 (Nat.le_of_eq hzO9))) bO5_4
  replace bO5_5 := ho.box (Nat.ne_of_gt (Nat.lt_of_lt_of_le lt8 (Nat.le_of_eq hzO9))) bO5_5
  replace bO5_6 := ho.box (Nat.ne_of_gt (Nat.lt_of_lt_of_le lt8 (Nat.le_of_eq hzO9))) bO5_6
  replace bO5_7 := ho.box (Nat.ne_of_gt (Nat.lt_of_lt_of_le lt8 (Nat.le_of_eq hzO9))) bO5_7
  replace bO5_8 := ho.box (Nat.ne_of_gt (Nat.lt_of_lt_of_le lt8 (Nat.le_of_eq hzO9))) bO5_8
  have hs16 : X13.heap.size ≤ X15.heap.size := Nat.le_of_eq ho.size.symm
  clear ho hk bO9_0 bO9_1 bO9_2 bO9_3 bO9_4 bO9_5 bO9_6 bO9_7 bO9_8
  have bO9_0 := hv0; clear hv0
  have bO9_1 := hv1; clear hv1
  have bO9_2 := hv2; clear hv2
  have bO9_3 := hv3; clear hv3
  have bO9_4 := hv4; clear hv4
  have bO9_5 := hv5; clear hv5
  have bO9_6 := hv6; clear hv6
  have bO9_7 := hv7; clear hv7
  have bO9_8 := hv8; clear hv8
  refine pl_nil ?_
  refine qw_then ?_
  refine cw_ret ?_
  refine qw_ret [.agg #[.int .i64 (o.id : Int), .int .i64 (o.od : Int), .int .i64 (o.cl : Int), .int .i64 (o.sa : Int), .int .i64 (o.fr : Int), .int .i64 (o.to : Int), .int .i64 (o.lk : Int), .int .i64 (o.sz : Int), .slice a (min n 7) c]] rfl ⟨⟨_, by kernel_rfl, res_ld (ld31 (bO9_0.1) (bO9_1.1) (bO9_2.1) (bO9_3.1) (bO9_4.1) (bO9_5.1) (bO9_6.1) (bO9_7.1) (bO9_8.1))⟩, trivial⟩ ?_
  exact ⟨rfl, hE⟩

end Go.Proofs.Ytnbjjddfcondlaa
