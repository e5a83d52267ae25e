/- Part 6 of what the proof of SwathMatchesReference stands on. -/
import Derived.Test.YtdjjkhefdalokaaV5SwathMatchesReference
import Derived.OwnWalk
/- Contracts of the reference of chapter 8: Valid, cell, Shown. -/
namespace Go.Proofs.Ytdjjkhefdalokaa
open Go.RowKit

set_option maxRecDepth 1000000 in
set_option maxHeartbeats 4000000 in
theorem rValid8_c (o : Orb) (s : Int × Int) (l : Int) (w : World) : Calls Try.prog 23 #[.agg #[.int .i64 o.p, .int .i64 o.f, .int .i64 o.lo, .int .i64 o.hi, .int .i64 o.nd, .int .i64 o.tn, .int .i64 o.sl], .agg #[.int .i64 s.1, .int .i64 s.2], .int .i64 l] w fun e w' => e = .returned (.bool (Swath.shB o s l)) ∧ Ext w w' := by
 refine calls_cw 42 [(2, .int .i64 l), (1, .agg #[.int .i64 s.1, .int .i64 s.2]), (0, .agg #[.int .i64 o.p, .int .i64 o.f, .int .i64 o.lo, .int .i64 o.hi, .int .i64 o.nd, .int .i64 o.tn, .int .i64 o.sl])] Try.func23 rfl Try.ntmps23 (by kernel_rfl) (by kernel_rfl) (fun L => ?_)
 have hE : Ext w w := Ext.refl w
 refine cw_seq ?_; refine cw_plain ?_
 refine pS (sn_new (us := #[.int .i64 o.p, .int .i64 o.f, .int .i64 o.lo, .int .i64 o.hi, .int .i64 o.nd, .int .i64 o.tn, .int .i64 o.sl]) (t := 24) (by kernel_rfl) ?_)
 intro O1 X2 hzO1 hyO1 hb hbx; have ⟨bO1_0, bO1_1, bO1_2, bO1_3, bO1_4, bO1_5, bO1_6⟩ := bx7 hbx; clear hbx
 replace hE := hE.trans hb; have hs3 := hb.size; clear hb; have lt4 := bO1_0.lt
 refine pS (sn_new (us := #[.int .i64 s.1, .int .i64 s.2]) (t := 26) (by kernel_rfl) ?_)
 intro O5 X6 hzO5 hyO5 hb hbx; have ⟨bO5_0, bO5_1⟩ := bx2 hbx; clear hbx
 replace hE := hE.trans hb; replace bO1_0 := BoxAt.ext hb bO1_0; replace bO1_1 := BoxAt.ext hb bO1_1; replace bO1_2 := BoxAt.ext hb bO1_2; replace bO1_3 := BoxAt.ext hb bO1_3; replace bO1_4 := BoxAt.ext hb bO1_4; replace bO1_5 := BoxAt.ext hb bO1_5; replace bO1_6 := BoxAt.ext hb bO1_6; have hs7 := hb.size; clear hb; have lt8 := bO5_0.lt; refine pT (.bool false) ?_; refine pl_nil ?_; refine qw_then ?_; refine cw_seq ?_; have hX9 : Ext X6 X6 := Ext.refl _; refine cw_plain ?_
 refine pU (.agg #[.int .i64 o.p, .int .i64 o.f, .int .i64 o.lo, .int .i64 o.hi, .int .i64 o.nd, .int .i64 o.tn, .int .i64 o.sl]) (ex_load rfl (by kernel_rfl) (ld24 (bO1_0.1) (bO1_1.1) (bO1_2.1) (bO1_3.1) (bO1_4.1) (bO1_5.1) (bO1_6.1))) ?_
 rcases Bool.eq_false_or_eq_true (Orb.ok o) with hb10 | hb10
 ·
  refine pS (sn_call (f := 58) (args := #[.agg #[.int .i64 o.p, .int .i64 o.f, .int .i64 o.lo, .int .i64 o.hi, .int .i64 o.nd, .int .i64 o.tn, .int .i64 o.sl]]) (by kernel_rfl) ((rOk_r (r := true) _ (hb10)).mono ?_))
  rintro e w11 ⟨rfl, hb⟩
  replace hE := hE.trans hb; replace hX9 := hX9.trans hb; have hs12 := hb.size; clear hb
  refine ⟨_, rfl, ?_⟩
  refine pT (.bool true) ?_; refine pT (.pointer (some ⟨O5, 0, none⟩)) ?_
  refine pU (.int .i64 s.1) (ex_load rfl (by kernel_rfl) (ld3 ((BoxAt.ext hX9 bO5_0).1))) ?_
  by_cases hc13 : (s.1 : Int) ≥ (0 : Int)
  ·
   refine pU (.bool true) (ev_dec (show _ = Result.ok (Next.value (Value.bool (decide ((s.1 : Int) ≥ (0 : Int))))) _ from by kernel_rfl) (hc13)) ?_
   refine pT (.bool true) ?_; refine pT (.bool true) ?_; refine pT (.pointer (some ⟨O5, 0, none⟩)) ?_
   refine pU (.int .i64 s.1) (ex_load rfl (by kernel_rfl) (ld3 ((BoxAt.ext hX9 bO5_0).1))) ?_
   refine pT (.pointer (some ⟨O5, 1, none⟩)) ?_
   refine pU (.int .i64 s.2) (ex_load rfl (by kernel_rfl) (ld3 ((BoxAt.ext hX9 bO5_1).1))) ?_
   by_cases hc14 : (s.1 : Int) < (s.2 : Int)
   ·
    refine pU (.bool true) (ev_dec (show _ = Result.ok (Next.value (Value.bool (decide ((s.1 : Int) < (s.2 : Int))))) _ from by kernel_rfl) (hc14)) ?_
    refine pT (.bool true) ?_; refine pT (.bool true) ?_; refine pT (.pointer (some ⟨O5, 1, none⟩)) ?_
    refine pU (.int .i64 s.2) (ex_load rfl (by kernel_rfl) (ld3 ((BoxAt.ext hX9 bO5_1).1))) ?_
    by_cases hc15 : (s.2 : Int) ≤ (1000001 : Int)
    ·
     refine pU (.bool true) (ev_dec (show _ = Result.ok (Next.value (Value.bool (decide ((s.2 : Int) ≤ (1000001 : Int))))) _ from by kernel_rfl) (hc15)) ?_
     refine pT (.bool true) ?_; refine pT (.bool true) ?_; refine pT (.pointer (some ⟨O5, 1, none⟩)) ?_
     refine pU (.int .i64 s.2) (ex_load rfl (by kernel_rfl) (ld3 ((BoxAt.ext hX9 bO5_1).1))) ?_
     refine pT (.pointer (some ⟨O5, 0, none⟩)) ?_
     refine pU (.int .i64 s.1) (ex_load rfl (by kernel_rfl) (ld3 ((BoxAt.ext hX9 bO5_0).1))) ?_
     refine pU (.int .i64 (s.2 - s.1 : Int)) (ev_wrap (by kernel_rfl) (by omega) (by omega)) ?_
     by_cases hc16 : (s.2 - s.1 : Int) ≤ (60 : Int)
     ·
      refine pU (.bool true) (ev_dec (show _ = Result.ok (Next.value (Value.bool (decide ((s.2 - s.1 : Int) ≤ (60 : Int))))) _ from by kernel_rfl) (hc16)) ?_
      refine pT (.bool true) ?_; refine pT (.bool true) ?_; refine pT (.int .i64 l) ?_
      by_cases hc17 : (l : Int) ≥ (-4 : Int)
      ·
       refine pU (.bool true) (ev_dec (show _ = Result.ok (Next.value (Value.bool (decide ((l : Int) ≥ (-4 : Int))))) _ from by kernel_rfl) (hc17)) ?_
       refine pT (.bool true) ?_; refine pT (.bool true) ?_; refine pT (.int .i64 l) ?_
       by_cases hc18 : (l : Int) ≤ (4 : Int)
       ·
        refine pU (.bool true) (ev_dec (show _ = Result.ok (Next.value (Value.bool (decide ((l : Int) ≤ (4 : Int))))) _ from by kernel_rfl) (hc18)) ?_
        refine pT (.bool true) ?_; refine pT (.bool true) ?_; refine pl_nil ?_; refine qw_then ?_; refine cC1 6 (fun L => ?_)
        refine cw_ret ?_
        refine qw_ret [.bool true] rfl ⟨(by kernel_rfl), trivial⟩ ?_
        exact ⟨congrArg (fun b => Ending.returned (Value.bool b)) (show Swath.shB o s l = true by simp [Swath.shB, Swath.spB, Globe.inB, hb10, hc13, hc14, hc15, hc16, hc17, hc18]).symm, hE⟩
       ·
        refine pU (.bool false) (ev_ndec (show _ = Result.ok (Next.value (Value.bool (decide ((l : Int) ≤ (4 : Int))))) _ from by kernel_rfl) (hc18)) ?_
        refine pT (.bool false) ?_; refine pT (.bool false) ?_; refine pl_nil ?_; refine qw_then ?_; refine cC1 6 (fun L => ?_)
        refine cw_ret ?_
        refine qw_ret [.bool false] rfl ⟨(by kernel_rfl), trivial⟩ ?_
        exact ⟨congrArg (fun b => Ending.returned (Value.bool b)) (show Swath.shB o s l = false by simp [Swath.shB, Swath.spB, Globe.inB, hb10, hc13, hc14, hc15, hc16, hc17, hc18]).symm, hE⟩
      ·
       refine pU (.bool false) (ev_ndec (show _ = Result.ok (Next.value (Value.bool (decide ((l : Int) ≥ (-4 : Int))))) _ from by kernel_rfl) (hc17)) ?_
       refine pT (.bool false) ?_; refine pT (.bool false) ?_; refine pK ?_; refine pK ?_; refine pT (.bool false) ?_; refine pT (.bool false) ?_; refine pl_nil ?_; refine qw_then ?_; refine cC1 6 (fun L => ?_)
       refine cw_ret ?_
       refine qw_ret [.bool false] rfl ⟨(by kernel_rfl), trivial⟩ ?_
       exact ⟨congrArg (fun b => Ending.returned (Value.bool b)) (show Swath.shB o s l = false by simp [Swath.shB, Swath.spB, Globe.inB, hb10, hc13, hc14, hc15, hc16, hc17]).symm, hE⟩
     ·
      refine pU (.bool false) (ev_ndec (show _ = Result.ok (Next.value (Value.bool (decide ((s.2 - s.1 : Int) ≤ (60 : Int))))) _ from by kernel_rfl) (hc16)) ?_
      refine pT (.bool false) ?_; refine pT (.bool false) ?_; refine pK ?_; refine pK ?_; refine pT (.bool false) ?_; refine pT (.bool false) ?_; refine pK ?_; refine pK ?_; refine pT (.bool false) ?_; refine pT (.bool false) ?_; refine pl_nil ?_; refine qw_then ?_; refine cC1 6 (fun L => ?_)
      refine cw_ret ?_
      refine qw_ret [.bool false] rfl ⟨(by kernel_rfl), trivial⟩ ?_
      exact ⟨congrArg (fun b => Ending.returned (Value.bool b)) (show Swath.shB o s l = false by simp [Swath.shB, Swath.spB, Globe.inB, hb10, hc13, hc14, hc15, hc16]).symm, hE⟩
    ·
     refine pU (.bool false) (ev_ndec (show _ = Result.ok (Next.value (Value.bool (decide ((s.2 : Int) ≤ (1000001 : Int))))) _ from by kernel_rfl) (hc15)) ?_
     refine pT (.bool false) ?_; refine pT (.bool false) ?_; refine pK ?_; refine pK ?_; refine pK ?_; refine pK ?_; refine pK ?_; refine pK ?_; refine pT (.bool false) ?_; refine pT (.bool false) ?_; refine pK ?_; refine pK ?_; refine pT (.bool false) ?_; refine pT (.bool false) ?_; refine pK ?_; refine pK ?_; refine pT (.bool false) ?_; refine pT (.bool false) ?_; refine pl_nil ?_; refine qw_then ?_; refine cC1 6 (fun L => ?_)
     refine cw_ret ?_
     refine qw_ret [.bool false] rfl ⟨(by kernel_rfl), trivial⟩ ?_
     exact ⟨congrArg (fun b => Ending.returned (Value.bool b)) (show Swath.shB o s l = false by simp [Swath.shB, Swath.spB, Globe.inB, hb10, hc13, hc14, hc15]).symm, hE⟩
   ·
    refine pU (.bool false) (ev_ndec (show _ = Result.ok (Next.value (Value.bool (decide ((s.1 : Int) < (s.2 : Int))))) _ from by kernel_rfl) (hc14)) ?_
    refine pT (.bool false) ?_; refine pT (.bool false) ?_; refine pK ?_; refine pK ?_; refine pK ?_; refine pT (.bool false) ?_; refine pT (.bool false) ?_; refine pK ?_; refine pK ?_; refine pK ?_; refine pK ?_; refine pK ?_; refine pK ?_; refine pT (.bool false) ?_; refine pT (.bool false) ?_; refine pK ?_; refine pK ?_; refine pT (.bool false) ?_; refine pT (.bool false) ?_; refine pK ?_; refine pK ?_; refine pT (.bool false) ?_; refine pT (.bool false) ?_; refine pl_nil ?_; refine qw_then ?_; refine cC1 6 (fun L => ?_)
    refine cw_ret ?_
    refine qw_ret [.bool false] rfl ⟨(by kernel_rfl), trivial⟩ ?_
    exact ⟨congrArg (fun b => Ending.returned (Value.bool b)) (show Swath.shB o s l = false by simp [Swath.shB, Swath.spB, Globe.inB, hb10, hc13, hc14]).symm, hE⟩
  ·
   refine pU (.bool false) (ev_ndec (show _ = Result.ok (Next.value (Value.bool (decide ((s.1 : Int) ≥ (0 : Int))))) _ from by kernel_rfl) (hc13)) ?_
   refine pT (.bool false) ?_; refine pT (.bool false) ?_; refine pK ?_; refine pK ?_; refine pK ?_; refine pK ?_; refine pK ?_; refine pT (.bool false) ?_; refine pT (.bool false) ?_; refine pK ?_; refine pK ?_; refine pK ?_; refine pT (.bool false) ?_; refine pT (.bool false) ?_; refine pK ?_; refine pK ?_; refine pK ?_; refine pK ?_; refine pK ?_; refine pK ?_; refine pT (.bool false) ?_; refine pT (.bool false) ?_; refine pK ?_; refine pK ?_; refine pT (.bool false) ?_; refine pT (.bool false) ?_; refine pK ?_; refine pK ?_; refine pT (.bool false) ?_; refine pT (.bool false) ?_; refine pl_nil ?_; refine qw_then ?_; refine cC1 6 (fun L => ?_)
   refine cw_ret ?_
   refine qw_ret [.bool false] rfl ⟨(by kernel_rfl), trivial⟩ ?_
   exact ⟨congrArg (fun b => Ending.returned (Value.bool b)) (show Swath.shB o s l = false by simp [Swath.shB, Swath.spB, Globe.inB, hb10, hc13]).symm, hE⟩
 ·
  refine pS (sn_call (f := 58) (args := #[.agg #[.int .i64 o.p, .int .i64 o.f, .int .i64 o.lo, .int .i64 o.hi, .int .i64 o.nd, .int .i64 o.tn, .int .i64 o.sl]]) (by kernel_rfl) ((rOk_r (r := false) _ (hb10)).mono ?_))
  rintro e w19 ⟨rfl, hb⟩
  replace hE := hE.trans hb; replace hX9 := hX9.trans hb; have hs20 := hb.size; clear hb
  refine ⟨_, rfl, ?_⟩
  refine pT (.bool false) ?_; refine pK ?_; refine pK ?_; refine pK ?_; refine pT (.bool false) ?_; refine pT (.bool false) ?_; refine pK ?_; refine pK ?_; refine pK ?_; refine pK ?_; refine pK ?_; refine pT (.bool false) ?_; refine pT (.bool false) ?_; refine pK ?_; refine pK ?_; refine pK ?_; refine pT (.bool false) ?_; refine pT (.bool false) ?_; refine pK ?_; refine pK ?_; refine pK ?_; refine pK ?_; refine pK ?_; refine pK ?_; refine pT (.bool false) ?_; refine pT (.bool false) ?_; refine pK ?_; refine pK ?_; refine pT (.bool false) ?_; refine pT (.bool false) ?_; refine pK ?_; refine pK ?_; refine pT (.bool false) ?_; refine pT (.bool false) ?_; refine pl_nil ?_; refine qw_then ?_; refine cC1 6 (fun L => ?_)
  refine cw_ret ?_
  refine qw_ret [.bool false] rfl ⟨(by kernel_rfl), trivial⟩ ?_
  exact ⟨congrArg (fun b => Ending.returned (Value.bool b)) (show Swath.shB o s l = false by simp [Swath.shB, Swath.spB, Globe.inB, hb10]).symm, hE⟩
theorem rValid8_r (o : Orb) (s : Int × Int) (l : Int) {r : Bool} (w : World) (hr : Swath.shB o s l = r) : Calls Try.prog 23 #[.agg #[.int .i64 o.p, .int .i64 o.f, .int .i64 o.lo, .int .i64 o.hi, .int .i64 o.nd, .int .i64 o.tn, .int .i64 o.sl], .agg #[.int .i64 s.1, .int .i64 s.2], .int .i64 l] w fun e w' => e = .returned (.bool r) ∧ Ext w w' := hr ▸ rValid8_c o s l w
set_option maxRecDepth 1000000 in
set_option maxHeartbeats 4000000 in
theorem rcell_c (o : Orb) (t l d : Int) (w : World) (h0 : -4 ≤ l) (h1 : l ≤ 4) (hat9 : Orb.atB o t d = true) : Calls Try.prog 45 #[.agg #[.int .i64 o.p, .int .i64 o.f, .int .i64 o.lo, .int .i64 o.hi, .int .i64 o.nd, .int .i64 o.tn, .int .i64 o.sl], .int .i64 t, .int .i64 l, .int .i64 d] w fun e w' => e = .returned (.agg #[.int .i64 ((Swath.sx o l (t - d) : Nat) : Int), .int .i64 ((Orb.cy o (t - d) : Nat) : Int)]) ∧ Ext w w' := by
 have hcx := Orb.cx_lt o (t - d)
 refine calls_cw 26 [(3, .int .i64 d), (2, .int .i64 l), (1, .int .i64 t), (0, .agg #[.int .i64 o.p, .int .i64 o.f, .int .i64 o.lo, .int .i64 o.hi, .int .i64 o.nd, .int .i64 o.tn, .int .i64 o.sl])] Try.func45 rfl Try.ntmps45 (by kernel_rfl) (by kernel_rfl) (fun L => ?_)
 have hE : Ext w w := Ext.refl w
 refine cw_seq ?_; refine cw_plain ?_
 refine pS (sn_new (us := #[.int .i64 o.p, .int .i64 o.f, .int .i64 o.lo, .int .i64 o.hi, .int .i64 o.nd, .int .i64 o.tn, .int .i64 o.sl]) (t := 24) (by kernel_rfl) ?_)
 intro O1 X2 hzO1 hyO1 hb hbx; have ⟨bO1_0, bO1_1, bO1_2, bO1_3, bO1_4, bO1_5, bO1_6⟩ := bx7 hbx; clear hbx
 replace hE := hE.trans hb; have hs3 := hb.size; clear hb; have lt4 := bO1_0.lt
 refine pS (sn_new (us := #[.int .i64 0, .int .i64 0]) (t := 57) (by kernel_rfl) ?_)
 intro O5 X6 hzO5 hyO5 hb hbx; have ⟨bO5_0, bO5_1⟩ := bx2 hbx; clear hbx
 replace hE := hE.trans hb; replace bO1_0 := BoxAt.ext hb bO1_0; replace bO1_1 := BoxAt.ext hb bO1_1; replace bO1_2 := BoxAt.ext hb bO1_2; replace bO1_3 := BoxAt.ext hb bO1_3; replace bO1_4 := BoxAt.ext hb bO1_4; replace bO1_5 := BoxAt.ext hb bO1_5; replace bO1_6 := BoxAt.ext hb bO1_6; have hs7 := hb.size; clear hb; have lt8 := bO5_0.lt; refine pl_nil ?_; refine qw_then ?_; refine cw_seq ?_; have hX9 : Ext X6 X6 := Ext.refl _; refine cw_plain ?_
 refine pU (.agg #[.int .i64 o.p, .int .i64 o.f, .int .i64 o.lo, .int .i64 o.hi, .int .i64 o.nd, .int .i64 o.tn, .int .i64 o.sl]) (ex_load rfl (by kernel_rfl) (ld24 (bO1_0.1) (bO1_1.1) (bO1_2.1) (bO1_3.1) (bO1_4.1) (bO1_5.1) (bO1_6.1))) ?_
 refine pT (.int .i64 t) ?_; refine pT (.int .i64 d) ?_
 refine pS (sn_call (f := 80) (args := #[.agg #[.int .i64 o.p, .int .i64 o.f, .int .i64 o.lo, .int .i64 o.hi, .int .i64 o.nd, .int .i64 o.tn, .int .i64 o.sl], .int .i64 t, .int .i64 d]) (by kernel_rfl) ((rAt_y _ _ _ _ hat9).mono ?_))
 rintro e w10 ⟨rfl, hb⟩
 replace hE := hE.trans hb; replace hX9 := hX9.trans hb; have hs11 := hb.size; clear hb
 refine ⟨_, rfl, ?_⟩
 refine pT (.tuple #[.agg #[.int .i64 (((Orb.cx o (t - d) : Nat) : Int) : Int), .int .i64 (((Orb.cy o (t - d) : Nat) : Int) : Int)], .int .i64 0]) ?_; refine pT (.agg #[.int .i64 (((Orb.cx o (t - d) : Nat) : Int) : Int), .int .i64 (((Orb.cy o (t - d) : Nat) : Int) : Int)]) ?_; refine pT (.int .i64 0) ?_
 refine pS (sn_new (us := #[.int .i64 0, .int .i64 0]) (t := 57) (by kernel_rfl) ?_)
 intro O12 X13 hzO12 hyO12 hb hbx; have ⟨bO12_0, bO12_1⟩ := bx2 hbx; clear hbx
 replace hE := hE.trans hb; replace hX9 := hX9.trans hb; have hs14 := hb.size; clear hb; have lt15 := bO12_0.lt
 refine pP (sn_set2 (O := O12) (j := 0) (v := .int .i64 (((Orb.cx o (t - d) : Nat) : Int) : Int)) (v' := .int .i64 (((Orb.cy o (t - d) : Nat) : Int) : Int)) (ex_store (p := .pointer (some ⟨O12, 0, none⟩)) (v := .agg #[.int .i64 (((Orb.cx o (t - d) : Nat) : Int) : Int), .int .i64 (((Orb.cy o (t - d) : Nat) : Int) : Int)]) rfl (by kernel_rfl) (by kernel_rfl) (st57 bO12_0.1 bO12_0.2 bO12_1.1 bO12_1.2)) bO12_0 bO12_1 ?_)
 intro X16 ho hv0 hv1 hk; replace hE := ho.ext hE (T (T hs3 (T hs7 hs11)) (Nat.le_of_eq hzO12)); replace hX9 := ho.ext hX9 (T hs11 (Nat.le_of_eq hzO12)); have hs17 : X13.heap.size ≤ X16.heap.size := Nat.le_of_eq ho.size.symm; clear ho hk bO12_0 bO12_1; have bO12_0 := hv0; clear hv0; have bO12_1 := hv1; clear hv1; refine pT (.int .i64 0) ?_; refine pl_nil ?_; refine qw_then ?_; refine cC3 2 8 9 (fun L => ?_); refine cw_seq ?_; refine cw_plain ?_; refine pT (.pointer (some ⟨O12, 0, none⟩)) ?_
 refine pU (.int .i64 (((Orb.cx o (t - d) : Nat) : Int) : Int)) (ex_load rfl (by kernel_rfl) (ld3 (bO12_0.1))) ?_
 refine pT (.int .i64 l) ?_
 refine pU (.int .i64 ((((Orb.cx o (t - d) : Nat) : Int)) + l : Int)) (ev_wrap (by kernel_rfl) (by omega) (by omega)) ?_
 refine pU (.int .i64 (((((Orb.cx o (t - d) : Nat) : Int)) + l) + 48 : Int)) (ev_wrap (by kernel_rfl) (by omega) (by omega)) ?_
 refine pU (.int .i64 (((Swath.sx o l (t - d) : Nat) : Int) : Int)) (ev_int (ex_bin (a := ((Orb.cx o (t - d) : Nat) : Int) + l + 48) (b := 48) rfl (by kernel_rfl) (by kernel_rfl) (bin_tmod (by omega))) ((Int.tmod_eq_emod_of_nonneg (by omega)).trans (Swath.sx_z o l _))) ?_
 refine pT (.pointer (some ⟨O12, 0, none⟩)) ?_
 refine pP (sn_set (O := O12) (j := 0) (v := .int .i64 (((Swath.sx o l (t - d) : Nat) : Int) : Int)) (ex_store (p := .pointer (some ⟨O12, 0, none⟩)) (v := .int .i64 (((Swath.sx o l (t - d) : Nat) : Int) : Int)) rfl (by kernel_rfl) (by kernel_rfl) (st3 bO12_0.1 bO12_0.2)) bO12_0 ?_)
 intro X18 ho hv0 hk; replace hE := ho.ext hE (T (T hs3 (T hs7 hs11)) (Nat.le_of_eq hzO12)); replace hX9 := ho.ext hX9 (T hs11 (Nat.le_of_eq hzO12)); replace bO12_1 := hk 1 _ (by omega) bO12_1; have hs19 : X16.heap.size ≤ X18.heap.size := Nat.le_of_eq ho.size.symm; clear ho hk bO12_0; have bO12_0 := hv0; clear hv0; refine pl_nil ?_; refine qw_then ?_; refine cw_seq ?_; refine cw_plain ?_
 refine pU (.agg #[.int .i64 (((Swath.sx o l (t - d) : Nat) : Int) : Int), .int .i64 (((Orb.cy o (t - d) : Nat) : Int) : Int)]) (ex_load rfl (by kernel_rfl) (ld57 (bO12_0.1) (bO12_1.1))) ?_
 have bO1_t21 := (BoxAt.ext hX9 bO1_0)
 have bO1_t22 := (BoxAt.ext hX9 bO1_1)
 have bO1_t23 := (BoxAt.ext hX9 bO1_2)
 have bO1_t24 := (BoxAt.ext hX9 bO1_3)
 have bO1_t25 := (BoxAt.ext hX9 bO1_4)
 have bO1_t26 := (BoxAt.ext hX9 bO1_5)
 have bO1_t27 := (BoxAt.ext hX9 bO1_6)
 have bO5_t28 := (BoxAt.ext hX9 bO5_0)
 have bO5_t29 := (BoxAt.ext hX9 bO5_1)
 refine pP (sn_set2 (O := O5) (j := 0) (v := .int .i64 (((Swath.sx o l (t - d) : Nat) : Int) : Int)) (v' := .int .i64 (((Orb.cy o (t - d) : Nat) : Int) : Int)) (ex_store (p := .pointer (some ⟨O5, 0, none⟩)) (v := .agg #[.int .i64 (((Swath.sx o l (t - d) : Nat) : Int) : Int), .int .i64 (((Orb.cy o (t - d) : Nat) : Int) : Int)]) rfl (by kernel_rfl) (by kernel_rfl) (st57 bO5_t28.1 bO5_t28.2 bO5_t29.1 bO5_t29.2)) bO5_t28 bO5_t29 ?_)
 intro X20 ho hv0 hv1 hk; replace hE := ho.ext hE (T hs3 (Nat.le_of_eq hzO5))
 have q9 := fun (j : Nat) (v : Value) (h : BoxAt _ O1 j v) => ho.box (Nat.ne_of_gt (Nat.lt_of_lt_of_le lt4 (Nat.le_of_eq hzO5))) h
 replace bO1_t21 := q9 _ _ bO1_t21; replace bO1_t22 := q9 _ _ bO1_t22; replace bO1_t23 := q9 _ _ bO1_t23; replace bO1_t24 := q9 _ _ bO1_t24; replace bO1_t25 := q9 _ _ bO1_t25; replace bO1_t26 := q9 _ _ bO1_t26; replace bO1_t27 := q9 _ _ bO1_t27; clear q9
 have q9 := fun (j : Nat) (v : Value) (h : BoxAt _ O12 j v) => ho.box (Nat.ne_of_lt (Nat.lt_of_lt_of_le lt8 (T hs11 (Nat.le_of_eq hzO12)))) h
 replace bO12_1 := q9 _ _ bO12_1; replace bO12_0 := q9 _ _ bO12_0; clear q9; have hs30 : X18.heap.size ≤ X20.heap.size := Nat.le_of_eq ho.size.symm; clear ho hk bO5_t28 bO5_t29; have bO5_t28 := hv0; clear hv0; have bO5_t29 := hv1; clear hv1; refine pl_nil ?_; refine qw_then ?_
 refine cw_ret ?_
 refine qw_ret [.agg #[.int .i64 (((Swath.sx o l (t - d) : Nat) : Int) : Int), .int .i64 (((Orb.cy o (t - d) : Nat) : Int) : Int)]] rfl ⟨⟨_, by kernel_rfl, res_ld (ld57 (bO5_t28.1) (bO5_t29.1))⟩, trivial⟩ ?_
 exact ⟨rfl, hE⟩
set_option maxRecDepth 1000000 in
set_option maxHeartbeats 4000000 in
theorem rShown_y {o : Orb} {s : Int × Int} {lk d : Int} (w : World) (hd8 : shdB o s lk d = true) : Calls Try.prog 15 #[.agg #[.int .i64 o.p, .int .i64 o.f, .int .i64 o.lo, .int .i64 o.hi, .int .i64 o.nd, .int .i64 o.tn, .int .i64 o.sl], .agg #[.int .i64 s.1, .int .i64 s.2], .int .i64 lk, .int .i64 d] w (RetAE w (Swath.showL o lk (s.1 - d) (s.2 - s.1).toNat)) := by
 obtain ⟨hv, hd9⟩ := Bool.and_eq_true_iff.1 hd8
 obtain ⟨hok, ⟨sp0, sp1, sp2, sp3⟩, hl0, hl1⟩ := Swath.shB_t.1 hv
 have hq0 := Orb.ok_t.1 hok
 have hd := Globe.inB_t.1 hd9
 refine calls_cw 62 [(3, .int .i64 d), (2, .int .i64 lk), (1, .agg #[.int .i64 s.1, .int .i64 s.2]), (0, .agg #[.int .i64 o.p, .int .i64 o.f, .int .i64 o.lo, .int .i64 o.hi, .int .i64 o.nd, .int .i64 o.tn, .int .i64 o.sl])] Try.func15 rfl Try.ntmps15 (by kernel_rfl) (by kernel_rfl) (fun L => ?_)
 have hE : Ext w w := Ext.refl w
 refine cw_seq ?_; refine cw_plain ?_
 refine pS (sn_new (us := #[.int .i64 o.p, .int .i64 o.f, .int .i64 o.lo, .int .i64 o.hi, .int .i64 o.nd, .int .i64 o.tn, .int .i64 o.sl]) (t := 24) (by kernel_rfl) ?_)
 intro O1 X2 hzO1 hyO1 hb hbx; have ⟨bO1_0, bO1_1, bO1_2, bO1_3, bO1_4, bO1_5, bO1_6⟩ := bx7 hbx; clear hbx
 replace hE := hE.trans hb; have hs3 := hb.size; clear hb; have lt4 := bO1_0.lt
 refine pS (sn_new (us := #[.int .i64 s.1, .int .i64 s.2]) (t := 26) (by kernel_rfl) ?_)
 intro O5 X6 hzO5 hyO5 hb hbx; have ⟨bO5_0, bO5_1⟩ := bx2 hbx; clear hbx
 replace hE := hE.trans hb; replace bO1_0 := BoxAt.ext hb bO1_0; replace bO1_1 := BoxAt.ext hb bO1_1; replace bO1_2 := BoxAt.ext hb bO1_2; replace bO1_3 := BoxAt.ext hb bO1_3; replace bO1_4 := BoxAt.ext hb bO1_4; replace bO1_5 := BoxAt.ext hb bO1_5; replace bO1_6 := BoxAt.ext hb bO1_6; have hs7 := hb.size; clear hb; have lt8 := bO5_0.lt
 refine pS (sn_new (us := #[.slice none 0 0]) (t := 31) (by kernel_rfl) ?_)
 intro O9 X10 hzO9 hyO9 hb hbx; have bO9_0 := bx1 hbx; clear hbx
 replace hE := hE.trans hb; replace bO1_0 := BoxAt.ext hb bO1_0; replace bO1_1 := BoxAt.ext hb bO1_1; replace bO1_2 := BoxAt.ext hb bO1_2; replace bO1_3 := BoxAt.ext hb bO1_3; replace bO1_4 := BoxAt.ext hb bO1_4; replace bO1_5 := BoxAt.ext hb bO1_5; replace bO1_6 := BoxAt.ext hb bO1_6; replace bO5_0 := BoxAt.ext hb bO5_0; replace bO5_1 := BoxAt.ext hb bO5_1; have hs11 := hb.size; clear hb; have lt12 := bO9_0.lt; refine pT (.int .i64 0) ?_; refine pl_nil ?_; refine qw_then ?_; refine cw_seq ?_; refine cw_seq ?_; refine cw_plain ?_
 refine pU (.agg #[.int .i64 o.p, .int .i64 o.f, .int .i64 o.lo, .int .i64 o.hi, .int .i64 o.nd, .int .i64 o.tn, .int .i64 o.sl]) (ex_load rfl (by kernel_rfl) (ld24 (bO1_0.1) (bO1_1.1) (bO1_2.1) (bO1_3.1) (bO1_4.1) (bO1_5.1) (bO1_6.1))) ?_
 refine pU (.agg #[.int .i64 s.1, .int .i64 s.2]) (ex_load rfl (by kernel_rfl) (ld26 (bO5_0.1) (bO5_1.1))) ?_
 refine pT (.int .i64 lk) ?_
 refine pS (sn_call (f := 23) (args := #[.agg #[.int .i64 o.p, .int .i64 o.f, .int .i64 o.lo, .int .i64 o.hi, .int .i64 o.nd, .int .i64 o.tn, .int .i64 o.sl], .agg #[.int .i64 s.1, .int .i64 s.2], .int .i64 lk]) (by kernel_rfl) ((rValid8_r (r := true) o s lk _ (hv)).mono ?_))
 rintro e w13 ⟨rfl, hb⟩
 replace hE := hE.trans hb; replace bO1_0 := BoxAt.ext hb bO1_0; replace bO1_1 := BoxAt.ext hb bO1_1; replace bO1_2 := BoxAt.ext hb bO1_2; replace bO1_3 := BoxAt.ext hb bO1_3; replace bO1_4 := BoxAt.ext hb bO1_4; replace bO1_5 := BoxAt.ext hb bO1_5; replace bO1_6 := BoxAt.ext hb bO1_6; replace bO5_0 := BoxAt.ext hb bO5_0; replace bO5_1 := BoxAt.ext hb bO5_1; replace bO9_0 := BoxAt.ext hb bO9_0; have hs14 := hb.size; clear hb
 refine ⟨_, rfl, ?_⟩
 refine pT (.bool false) ?_; refine pT (.bool false) ?_; refine pT (.int .i64 d) ?_; refine pT (.pointer (some ⟨O1, 6, none⟩)) ?_
 refine pU (.int .i64 o.sl) (ex_load rfl (by kernel_rfl) (ld3 (bO1_6.1))) ?_
 refine pU (.int .i64 (-o.sl : Int)) (ev_int (ev_wrap (a := 0 - o.sl) (by kernel_rfl) (by omega) (by omega)) (by omega)) ?_
 refine pU (.bool false) (ev_ndec (show _ = Result.ok (Next.value (Value.bool (decide ((d : Int) < (-o.sl : Int))))) _ from by kernel_rfl) (by omega)) ?_
 refine pT (.bool false) ?_; refine pT (.bool false) ?_; refine pT (.int .i64 d) ?_; refine pT (.pointer (some ⟨O1, 6, none⟩)) ?_
 refine pU (.int .i64 o.sl) (ex_load rfl (by kernel_rfl) (ld3 (bO1_6.1))) ?_
 refine pU (.bool false) (ev_ndec (show _ = Result.ok (Next.value (Value.bool (decide ((d : Int) > (o.sl : Int))))) _ from by kernel_rfl) (by omega)) ?_
 refine pT (.bool false) ?_; refine pl_nil ?_; refine qw_then ?_; refine cC6 2 3 4 5 8 30 (fun L => ?_)
 refine cw_f (by kernel_rfl) ?_
 refine cw_skip ?_
 refine qw_then ?_; refine cw_seq ?_; refine cw_plain ?_
 refine pS (sn_call (f := 38) (args := #[]) (by kernel_rfl) ((rEmpty_c _).mono ?_))
 rintro e w18 ⟨B15, rfl, hn16, hr17, hb⟩
 replace hE := hE.trans hb; replace bO1_0 := BoxAt.ext hb bO1_0; replace bO1_1 := BoxAt.ext hb bO1_1; replace bO1_2 := BoxAt.ext hb bO1_2; replace bO1_3 := BoxAt.ext hb bO1_3; replace bO1_4 := BoxAt.ext hb bO1_4; replace bO1_5 := BoxAt.ext hb bO1_5; replace bO1_6 := BoxAt.ext hb bO1_6; replace bO5_0 := BoxAt.ext hb bO5_0; replace bO5_1 := BoxAt.ext hb bO5_1; replace bO9_0 := BoxAt.ext hb bO9_0; have hs19 := hb.size; clear hb; have lt20 := hr17.lt
 refine ⟨_, rfl, ?_⟩
 refine pS (sn_new (us := #[.slice none 0 0]) (t := 31) (by kernel_rfl) ?_)
 intro O21 X22 hzO21 hyO21 hb hbx; have bO21_0 := bx1 hbx; clear hbx
 replace hE := hE.trans hb; replace bO1_0 := BoxAt.ext hb bO1_0; replace bO1_1 := BoxAt.ext hb bO1_1; replace bO1_2 := BoxAt.ext hb bO1_2; replace bO1_3 := BoxAt.ext hb bO1_3; replace bO1_4 := BoxAt.ext hb bO1_4; replace bO1_5 := BoxAt.ext hb bO1_5; replace bO1_6 := BoxAt.ext hb bO1_6; replace bO5_0 := BoxAt.ext hb bO5_0; replace bO5_1 := BoxAt.ext hb bO5_1; replace bO9_0 := BoxAt.ext hb bO9_0; replace hr17 := hr17.ext hb; have hs23 := hb.size; clear hb; have lt24 := bO21_0.lt
 refine pP (sn_set (O := O21) (j := 0) (v := .slice (some ⟨B15, 0, none⟩) 24 24) (ex_store (p := .pointer (some ⟨O21, 0, none⟩)) (v := .agg #[.slice (some ⟨B15, 0, none⟩) 24 24]) rfl (by kernel_rfl) (by kernel_rfl) (st31 bO21_0.1 bO21_0.2)) bO21_0 ?_)
 intro X25 ho hv0 hk; replace hE := ho.ext hE (T (T hs3 (T hs7 (T hs11 (T hs14 hs19)))) (Nat.le_of_eq hzO21))
 have q9 := fun (j : Nat) (v : Value) (h : BoxAt _ O1 j v) => ho.box (Nat.ne_of_gt (Nat.lt_of_lt_of_le lt4 (T (T hs7 (T hs11 (T hs14 hs19))) (Nat.le_of_eq hzO21)))) h
 replace bO1_0 := q9 _ _ bO1_0; replace bO1_1 := q9 _ _ bO1_1; replace bO1_2 := q9 _ _ bO1_2; replace bO1_3 := q9 _ _ bO1_3; replace bO1_4 := q9 _ _ bO1_4; replace bO1_5 := q9 _ _ bO1_5; replace bO1_6 := q9 _ _ bO1_6; clear q9
 have q9 := fun (j : Nat) (v : Value) (h : BoxAt _ O5 j v) => ho.box (Nat.ne_of_gt (Nat.lt_of_lt_of_le lt8 (T (T hs11 (T hs14 hs19)) (Nat.le_of_eq hzO21)))) h
 replace bO5_0 := q9 _ _ bO5_0; replace bO5_1 := q9 _ _ bO5_1; clear q9; replace bO9_0 := ho.box (Nat.ne_of_gt (Nat.lt_of_lt_of_le lt12 (T (T hs14 hs19) (Nat.le_of_eq hzO21)))) bO9_0; replace hr17 := ho.rows (Nat.ne_of_gt (Nat.lt_of_lt_of_le lt20 (Nat.le_of_eq hzO21))) hr17; have hs26 : X22.heap.size ≤ X25.heap.size := Nat.le_of_eq ho.size.symm; clear ho hk bO21_0; have bO21_0 := hv0; clear hv0; refine pl_nil ?_; refine qw_then ?_; refine cw_seq ?_; refine cw_seq ?_; refine cw_plain ?_; refine pT (.pointer (some ⟨O5, 0, none⟩)) ?_
 refine pU (.int .i64 s.1) (ex_load rfl (by kernel_rfl) (ld3 (bO5_0.1))) ?_
 refine pU (.int .i64 (s.1 + ((0 : Nat) : Int) : Int)) (ev_int (show _ = Result.ok (Next.value (Value.int .i64 s.1)) _ from by kernel_rfl) (by omega)) ?_
 refine pl_nil ?_; refine qw_then ?_
 refine cw_block ?_
 have hX27 : Ext X25 X25 := Ext.refl _
 have bO1_t28 := bO1_0
 have bO1_t29 := bO1_1
 have bO1_t30 := bO1_2
 have bO1_t31 := bO1_3
 have bO1_t32 := bO1_4
 have bO1_t33 := bO1_5
 have bO1_t34 := bO1_6
 have bO5_t35 := bO5_0
 have bO5_t36 := bO5_1
 have bO9_t37 := bO9_0
 have hrt38 := hr17
 have bO21_t39 := bO21_0
 refine cw_loop [2, 3, 4, 5, 8, 10, 11] (fun ws' wr m => ∃ i : Nat, ws' = [(2, .int .i64 lk), (3, .int .i64 d), (4, .pointer (some ⟨O1, 0, none⟩)), (5, .pointer (some ⟨O5, 0, none⟩)), (8, .pointer (some ⟨O9, 0, none⟩)), (10, .pointer (some ⟨O21, 0, none⟩)), (11, .int .i64 (s.1 + ((i : Nat) : Int) : Int))] ∧ m = (s.2 - s.1).toNat - i ∧ X25.heap.size ≤ wr.heap.size ∧ Ext w wr ∧ BoxAt wr O1 0 (.int .i64 o.p) ∧ BoxAt wr O1 1 (.int .i64 o.f) ∧ BoxAt wr O1 2 (.int .i64 o.lo) ∧ BoxAt wr O1 3 (.int .i64 o.hi) ∧ BoxAt wr O1 4 (.int .i64 o.nd) ∧ BoxAt wr O1 5 (.int .i64 o.tn) ∧ BoxAt wr O1 6 (.int .i64 o.sl) ∧ BoxAt wr O5 0 (.int .i64 s.1) ∧ BoxAt wr O5 1 (.int .i64 s.2) ∧ BoxAt wr O9 0 (.slice none 0 0) ∧ BoxAt wr O21 0 (.slice (some ⟨B15, 0, none⟩) 24 24) ∧ RowsAt wr B15 (Swath.showL o lk (s.1 - d) i) ∧ i ≤ (s.2 - s.1).toNat) (ws0 := [(2, .int .i64 lk), (3, .int .i64 d), (4, .pointer (some ⟨O1, 0, none⟩)), (5, .pointer (some ⟨O5, 0, none⟩)), (8, .pointer (some ⟨O9, 0, none⟩)), (10, .pointer (some ⟨O21, 0, none⟩)), (11, .int .i64 (s.1 + ((0 : Nat) : Int) : Int))]) (by kernel_rfl) _ ⟨0, rfl, rfl, Nat.le_refl _, hE, bO1_t28, bO1_t29, bO1_t30, bO1_t31, bO1_t32, bO1_t33, bO1_t34, bO5_t35, bO5_t36, bO9_t37, bO21_t39, hrt38, Nat.zero_le _⟩ ?_
 clear bO1_t28 bO1_t29 bO1_t30 bO1_t31 bO1_t32 bO1_t33 bO1_t34 bO5_t35 bO5_t36 bO9_t37 hrt38 bO21_t39 hE
 rintro m42 L ws w41 ⟨i, rfl, rfl, hs40, hE, bO1_t28, bO1_t29, bO1_t30, bO1_t31, bO1_t32, bO1_t33, bO1_t34, bO5_t35, bO5_t36, bO9_t37, bO21_t39, hr9, hi⟩
 by_cases hlt : i < (s.2 - s.1).toNat
 ·
  refine cw_seq ?_; refine cw_seq ?_; refine cw_plain ?_; refine pT (.int .i64 (s.1 + ((i : Nat) : Int) : Int)) ?_; refine pT (.pointer (some ⟨O5, 1, none⟩)) ?_
  refine pU (.int .i64 s.2) (ex_load rfl (by kernel_rfl) (ld3 (bO5_t36.1))) ?_
  refine pU (.bool true) (ev_dec (show _ = Result.ok (Next.value (Value.bool (decide ((s.1 + ((i : Nat) : Int) : Int) < (s.2 : Int))))) _ from by kernel_rfl) (by omega)) ?_
  refine pl_nil ?_; refine qw_then ?_
  refine cw_t (by kernel_rfl) ?_
  refine cw_skip ?_
  refine qw_then ?_; refine cw_seq ?_
  refine cw_block ?_
  refine cw_seq ?_; refine cw_plain ?_
  refine pU (.agg #[.int .i64 o.p, .int .i64 o.f, .int .i64 o.lo, .int .i64 o.hi, .int .i64 o.nd, .int .i64 o.tn, .int .i64 o.sl]) (ex_load rfl (by kernel_rfl) (ld24 (bO1_t28.1) (bO1_t29.1) (bO1_t30.1) (bO1_t31.1) (bO1_t32.1) (bO1_t33.1) (bO1_t34.1))) ?_
  refine pT (.int .i64 (s.1 + ((i : Nat) : Int) : Int)) ?_; refine pT (.int .i64 lk) ?_; refine pT (.int .i64 d) ?_
  refine pS (sn_call (f := 45) (args := #[.agg #[.int .i64 o.p, .int .i64 o.f, .int .i64 o.lo, .int .i64 o.hi, .int .i64 o.nd, .int .i64 o.tn, .int .i64 o.sl], .int .i64 (s.1 + ((i : Nat) : Int) : Int), .int .i64 lk, .int .i64 d]) (by kernel_rfl) ((rcell_c o (s.1 + ((i : Nat) : Int)) lk d _ (by omega) (by omega) (by unfold Orb.atB; rw [show Globe.inB (s.1 + ((i : Nat) : Int)) 0 1000000 = true from Globe.inB_t.2 ⟨by omega, by omega⟩, show Globe.inB d (-10) 10 = true from Globe.inB_t.2 ⟨by omega, by omega⟩, hok]; rfl)).mono ?_))
  rintro e w43 ⟨rfl, hb⟩
  replace hE := hE.trans hb; replace bO1_t28 := BoxAt.ext hb bO1_t28; replace bO1_t29 := BoxAt.ext hb bO1_t29; replace bO1_t30 := BoxAt.ext hb bO1_t30; replace bO1_t31 := BoxAt.ext hb bO1_t31; replace bO1_t32 := BoxAt.ext hb bO1_t32; replace bO1_t33 := BoxAt.ext hb bO1_t33; replace bO1_t34 := BoxAt.ext hb bO1_t34; replace bO5_t35 := BoxAt.ext hb bO5_t35; replace bO5_t36 := BoxAt.ext hb bO5_t36; replace bO9_t37 := BoxAt.ext hb bO9_t37; replace bO21_t39 := BoxAt.ext hb bO21_t39; replace hr9 := hr9.ext hb; have hs44 := hb.size; clear hb
  refine ⟨_, rfl, ?_⟩
  refine pS (sn_new (us := #[.int .i64 0, .int .i64 0]) (t := 57) (by kernel_rfl) ?_)
  intro O45 X46 hzO45 hyO45 hb hbx; have ⟨bO45_0, bO45_1⟩ := bx2 hbx; clear hbx
  replace hE := hE.trans hb; replace bO1_t28 := BoxAt.ext hb bO1_t28; replace bO1_t29 := BoxAt.ext hb bO1_t29; replace bO1_t30 := BoxAt.ext hb bO1_t30; replace bO1_t31 := BoxAt.ext hb bO1_t31; replace bO1_t32 := BoxAt.ext hb bO1_t32; replace bO1_t33 := BoxAt.ext hb bO1_t33; replace bO1_t34 := BoxAt.ext hb bO1_t34; replace bO5_t35 := BoxAt.ext hb bO5_t35; replace bO5_t36 := BoxAt.ext hb bO5_t36; replace bO9_t37 := BoxAt.ext hb bO9_t37; replace bO21_t39 := BoxAt.ext hb bO21_t39; replace hr9 := hr9.ext hb; have hs47 := hb.size; clear hb; have lt48 := bO45_0.lt
  refine pP (sn_set2 (O := O45) (j := 0) (v := .int .i64 (((Swath.sx o lk ((s.1 + ((i : Nat) : Int)) - d) : Nat) : Int) : Int)) (v' := .int .i64 (((Orb.cy o ((s.1 + ((i : Nat) : Int)) - d) : Nat) : Int) : Int)) (ex_store (p := .pointer (some ⟨O45, 0, none⟩)) (v := .agg #[.int .i64 (((Swath.sx o lk ((s.1 + ((i : Nat) : Int)) - d) : Nat) : Int) : Int), .int .i64 (((Orb.cy o ((s.1 + ((i : Nat) : Int)) - d) : Nat) : Int) : Int)]) rfl (by kernel_rfl) (by kernel_rfl) (st57 bO45_0.1 bO45_0.2 bO45_1.1 bO45_1.2)) bO45_0 bO45_1 ?_)
  intro X49 ho hv0 hv1 hk; replace hE := ho.ext hE (T (T hs3 (T hs7 (T hs11 (T hs14 (T hs19 (T hs23 (T hs26 (T hs40 hs44)))))))) (Nat.le_of_eq hzO45))
  have q9 := fun (j : Nat) (v : Value) (h : BoxAt _ O1 j v) => ho.box (Nat.ne_of_gt (Nat.lt_of_lt_of_le lt4 (T (T hs7 (T hs11 (T hs14 (T hs19 (T hs23 (T hs26 (T hs40 hs44))))))) (Nat.le_of_eq hzO45)))) h
  replace bO1_t28 := q9 _ _ bO1_t28; replace bO1_t29 := q9 _ _ bO1_t29; replace bO1_t30 := q9 _ _ bO1_t30; replace bO1_t31 := q9 _ _ bO1_t31; replace bO1_t32 := q9 _ _ bO1_t32; replace bO1_t33 := q9 _ _ bO1_t33; replace bO1_t34 := q9 _ _ bO1_t34; clear q9
  have q9 := fun (j : Nat) (v : Value) (h : BoxAt _ O5 j v) => ho.box (Nat.ne_of_gt (Nat.lt_of_lt_of_le lt8 (T (T hs11 (T hs14 (T hs19 (T hs23 (T hs26 (T hs40 hs44)))))) (Nat.le_of_eq hzO45)))) h
  replace bO5_t35 := q9 _ _ bO5_t35; replace bO5_t36 := q9 _ _ bO5_t36; clear q9; replace bO9_t37 := ho.box (Nat.ne_of_gt (Nat.lt_of_lt_of_le lt12 (T (T hs14 (T hs19 (T hs23 (T hs26 (T hs40 hs44))))) (Nat.le_of_eq hzO45)))) bO9_t37; replace bO21_t39 := ho.box (Nat.ne_of_gt (Nat.lt_of_lt_of_le lt24 (T (T hs26 (T hs40 hs44)) (Nat.le_of_eq hzO45)))) bO21_t39; replace hr9 := ho.rows (Nat.ne_of_gt (Nat.lt_of_lt_of_le lt20 (T (T hs23 (T hs26 (T hs40 hs44))) (Nat.le_of_eq hzO45)))) hr9; have hs50 : X46.heap.size ≤ X49.heap.size := Nat.le_of_eq ho.size.symm; clear ho hk bO45_0 bO45_1; have bO45_0 := hv0; clear hv0; have bO45_1 := hv1; clear hv1; refine pl_nil ?_; refine qw_then ?_; refine cC8 2 3 4 5 8 10 11 12 (fun L => ?_)
  have hcy := Orb.cy_lt hok (s.1 + ((i : Nat) : Int) - d)
  have hcx := Swath.sx_lt o lk (s.1 + ((i : Nat) : Int) - d)
  have hvs := Swath.show_valid hok lk (s.1 - d) i
  have hv9 := RowsAt.va hr9 hvs
  have hrl := Globe.rowN_lt hvs (Orb.cy o (s.1 + ((i : Nat) : Int) - d))
  refine cw_draw [(some 46, [10], []), (some 47, [46], [0]), (some 48, [12], []), (some 49, [48], [2]), (some 50, [10], []), (some 51, [50], [4]), (some 52, [12], []), (some 53, [52], [6]), (some 54, [51, 53], [5, 7]), (some 55, [54], [8]), (some 56, [12], []), (some 57, [56], [10]), (some 58, [57], [11]), (some 59, [55, 58], [9, 12]), (some 60, [47, 49], [1, 3, 0, 1, 2, 3, 4, 5, 6, 7, 8, 9, 10, 11, 12, 13]), (none, [60, 59], [14, 13, 0, 1, 2, 3, 4, 5, 6, 7, 8, 9, 10, 11, 12, 13])] (fun w' => w'.cell? ⟨O21, 0, none⟩ = some (.slice (some ⟨B15, 0, none⟩) 24 24) ∧ w'.cell? ⟨O45, 1, none⟩ = some (.int .i64 (((Orb.cy o ((s.1 + ((i : Nat) : Int)) - d) : Nat) : Int) : Int)) ∧ w'.cell? ⟨O45, 0, none⟩ = some (.int .i64 (((Swath.sx o lk ((s.1 + ((i : Nat) : Int)) - d) : Nat) : Int) : Int))) (by kernel_rfl) (by kernel_rfl) (by kernel_rfl) (by kernel_rfl) ((calm_block (calm_then (calm_then (calm_block (calm_then calm_body)))))) (⟨bO21_t39.1, bO45_1.1, bO45_0.1⟩) (fun ops Q X51 hb hL hR hK => ?_)
  replace hE := hE.trans hb; replace bO1_t28 := BoxAt.ext hb bO1_t28; replace bO1_t29 := BoxAt.ext hb bO1_t29; replace bO1_t30 := BoxAt.ext hb bO1_t30; replace bO1_t31 := BoxAt.ext hb bO1_t31; replace bO1_t32 := BoxAt.ext hb bO1_t32; replace bO1_t33 := BoxAt.ext hb bO1_t33; replace bO1_t34 := BoxAt.ext hb bO1_t34; replace bO5_t35 := BoxAt.ext hb bO5_t35; replace bO5_t36 := BoxAt.ext hb bO5_t36; replace bO9_t37 := BoxAt.ext hb bO9_t37; replace bO21_t39 := BoxAt.ext hb bO21_t39; replace hr9 := hr9.ext hb; replace bO45_0 := BoxAt.ext hb bO45_0; replace bO45_1 := BoxAt.ext hb bO45_1; replace hv9 := hv9.ext hb; have hs52 := hb.size; clear hb
  have hS53 := And.intro (bO21_t39.1) (And.intro (bO45_1.1) (bO45_0.1))
  refine wT 0 (.pointer (some ⟨O21, 0, none⟩)) hR (fun w _ => by kernel_rfl) (hS53) ?_
  refine wT 1 (.slice (some ⟨B15, 0, none⟩) 24 24) hR (fun w hS => ex_load rfl (by kernel_rfl) (ld29 (hS.1))) (hS53) ?_
  refine wT 2 (.pointer (some ⟨O45, 1, none⟩)) hR (fun w _ => by kernel_rfl) (hS53) ?_
  refine wT 3 (.int .i64 (((Orb.cy o ((s.1 + ((i : Nat) : Int)) - d) : Nat) : Int) : Int)) hR (fun w hS => ex_load rfl (by kernel_rfl) (ld3 (hS.2.1))) (hS53) ?_
  refine wT 4 (.pointer (some ⟨O21, 0, none⟩)) hR (fun w _ => by kernel_rfl) (hS53) ?_
  refine wT 5 (.slice (some ⟨B15, 0, none⟩) 24 24) hR (fun w hS => ex_load rfl (by kernel_rfl) (ld29 (hS.1))) (hS53) ?_
  refine wT 6 (.pointer (some ⟨O45, 1, none⟩)) hR (fun w _ => by kernel_rfl) (hS53) ?_
  refine wT 7 (.int .i64 (((Orb.cy o ((s.1 + ((i : Nat) : Int)) - d) : Nat) : Int) : Int)) hR (fun w hS => ex_load rfl (by kernel_rfl) (ld3 (hS.2.1))) (hS53) ?_
  refine wT 8 (.pointer (some ⟨B15, Orb.cy o ((s.1 + ((i : Nat) : Int)) - d), none⟩)) hR (fun w _ => ex_index (p := .slice (some ⟨B15, 0, none⟩) 24 24) (i := .int .i64 ((Orb.cy o ((s.1 + ((i : Nat) : Int)) - d) : Nat) : Int)) rfl (by kernel_rfl) (by kernel_rfl) (ix29z (k := Orb.cy o ((s.1 + ((i : Nat) : Int)) - d)) (by omega))) (hS53) ?_
  refine wT 10 (.pointer (some ⟨O45, 0, none⟩)) hR (fun w _ => by kernel_rfl) (hS53) ?_
  refine wT 11 (.int .i64 (((Swath.sx o lk ((s.1 + ((i : Nat) : Int)) - d) : Nat) : Int) : Int)) hR (fun w hS => ex_load rfl (by kernel_rfl) (ld3 (hS.2.2))) (hS53) ?_
  refine wT 12 (.int .i64 (((2 ^ (Swath.sx o lk ((s.1 + ((i : Nat) : Int)) - d)) : Nat) : Int) : Int)) hR (fun w _ => ex_bin rfl (by kernel_rfl) (by kernel_rfl) (bin_shl1 (by omega))) (hS53) ?_
  refine wS 9 hR (sn_eff (v := .int .i64 (((Globe.rowN (Swath.showL o lk (s.1 - d) i) (Orb.cy o ((s.1 + ((i : Nat) : Int)) - d)) : Nat) : Int) : Int)) (w' := X51) (ex_load rfl (by kernel_rfl) (ld3 (hv9.cell0 (y := Orb.cy o ((s.1 + ((i : Nat) : Int)) - d)) (by omega)))) ⟨hS53, ?_⟩)
  refine wT 13 (.int .i64 ((((Globe.rowN (Swath.showL o lk (s.1 - d) i) (Orb.cy o (s.1 + ((i : Nat) : Int) - d))) ||| (2 ^ Swath.sx o lk (s.1 + ((i : Nat) : Int) - d)) : Nat) : Int) : Int)) hR (fun w _ => ev_int (show _ = Result.ok (Next.value (Value.int .i64 (bits .or .i64 ((Globe.rowN (Swath.showL o lk (s.1 - d) i) (Orb.cy o (s.1 + ((i : Nat) : Int) - d)) : Nat) : Int) ((2 ^ Swath.sx o lk (s.1 + ((i : Nat) : Int) - d) : Nat) : Int)))) _ from by kernel_rfl) (or_i64 _ _ (by omega) (by have : 2 ^ Swath.sx o lk (s.1 + ((i : Nat) : Int) - d) < 2 ^ 48 := Nat.pow_lt_pow_right (by decide) hcx; omega))) (hS53) ?_
  refine wT 14 (.pointer (some ⟨B15, Orb.cy o ((s.1 + ((i : Nat) : Int)) - d), none⟩)) hR (fun w _ => ex_index (p := .slice (some ⟨B15, 0, none⟩) 24 24) (i := .int .i64 ((Orb.cy o ((s.1 + ((i : Nat) : Int)) - d) : Nat) : Int)) rfl (by kernel_rfl) (by kernel_rfl) (ix29z (k := Orb.cy o ((s.1 + ((i : Nat) : Int)) - d)) (by omega))) (hS53) ?_
  refine wS 15 hR (sn_row (g := B15) (y := Orb.cy o ((s.1 + ((i : Nat) : Int)) - d)) (v := (((Globe.rowN (Swath.showL o lk (s.1 - d) i) (Orb.cy o (s.1 + ((i : Nat) : Int) - d))) ||| (2 ^ Swath.sx o lk (s.1 + ((i : Nat) : Int) - d)) : Nat) : Int)) (ex_store (p := .pointer (some ⟨B15, Orb.cy o ((s.1 + ((i : Nat) : Int)) - d), none⟩)) (v := .int .i64 ((((Globe.rowN (Swath.showL o lk (s.1 - d) i) (Orb.cy o (s.1 + ((i : Nat) : Int) - d))) ||| (2 ^ Swath.sx o lk (s.1 + ((i : Nat) : Int) - d)) : Nat) : Int) : Int)) rfl (by kernel_rfl) (by kernel_rfl) (st3 (hr9.cell (by omega)) (hr9.free (by omega)))) hr9 (by omega) ?_)
  intro X54 ho hv0; replace hE := ho.ext hE (T (T hs3 (T hs7 (T hs11 hs14))) hn16)
  have q9 := fun (j : Nat) (v : Value) (h : BoxAt _ O1 j v) => ho.box (Nat.ne_of_gt (Nat.lt_of_lt_of_le lt4 (T (T hs7 (T hs11 hs14)) hn16))) h
  replace bO1_t28 := q9 _ _ bO1_t28; replace bO1_t29 := q9 _ _ bO1_t29; replace bO1_t30 := q9 _ _ bO1_t30; replace bO1_t31 := q9 _ _ bO1_t31; replace bO1_t32 := q9 _ _ bO1_t32; replace bO1_t33 := q9 _ _ bO1_t33; replace bO1_t34 := q9 _ _ bO1_t34; clear q9
  have q9 := fun (j : Nat) (v : Value) (h : BoxAt _ O5 j v) => ho.box (Nat.ne_of_gt (Nat.lt_of_lt_of_le lt8 (T (T hs11 hs14) hn16))) h
  replace bO5_t35 := q9 _ _ bO5_t35; replace bO5_t36 := q9 _ _ bO5_t36; clear q9; replace bO9_t37 := ho.box (Nat.ne_of_gt (Nat.lt_of_lt_of_le lt12 (T hs14 hn16))) bO9_t37; replace bO21_t39 := ho.box (Nat.ne_of_lt (Nat.lt_of_lt_of_le lt20 (Nat.le_of_eq hzO21))) bO21_t39
  have q9 := fun (j : Nat) (v : Value) (h : BoxAt _ O45 j v) => ho.box (Nat.ne_of_lt (Nat.lt_of_lt_of_le lt20 (T (T hs23 (T hs26 (T hs40 hs44))) (Nat.le_of_eq hzO45)))) h
  replace bO45_0 := q9 _ _ bO45_0; replace bO45_1 := q9 _ _ bO45_1; clear q9; have hs55 : X51.heap.size ≤ X54.heap.size := Nat.le_of_eq ho.size.symm; clear ho hr9; have hr9 := hv0; clear hv0
  have hS56 := And.intro (bO21_t39.1) (And.intro (bO45_1.1) (bO45_0.1))
  refine ⟨hS56, ?_⟩
  refine wd_end hL hR hK (by kernel_rfl) ?_
  refine qw_block ?_
  refine qw_then ?_; refine cC7 2 3 4 5 8 10 11 (fun L => ?_); refine cw_plain ?_; refine pT (.int .i64 (s.1 + ((i : Nat) : Int) : Int)) ?_
  refine pU (.int .i64 (s.1 + ((i + 1 : Nat) : Int) : Int)) (ev_int (ev_wrap (a := s.1 + ((i : Nat) : Int) + 1) (by kernel_rfl) (by omega) (by omega)) (by omega)) ?_
  refine pT (.int .i64 (s.1 + ((i + 1 : Nat) : Int) : Int)) ?_; refine pl_nil ?_
  refine qw_round [2, 3, 4, 5, 8, 10, 11] (ws' := [(2, .int .i64 lk), (3, .int .i64 d), (4, .pointer (some ⟨O1, 0, none⟩)), (5, .pointer (some ⟨O5, 0, none⟩)), (8, .pointer (some ⟨O9, 0, none⟩)), (10, .pointer (some ⟨O21, 0, none⟩)), (11, .int .i64 (s.1 + ((i + 1 : Nat) : Int) : Int))]) (by kernel_rfl) _ ?_ ⟨(i + 1), rfl, rfl, (T hs40 (T hs44 (T hs47 (T hs50 (T hs52 hs55))))), hE, bO1_t28, bO1_t29, bO1_t30, bO1_t31, bO1_t32, bO1_t33, bO1_t34, bO5_t35, bO5_t36, bO9_t37, bO21_t39, (show_next hr9), by omega⟩
  omega
 ·
  have hin : i = (s.2 - s.1).toNat := by omega
  refine cw_seq ?_; refine cw_seq ?_; refine cw_plain ?_; refine pT (.int .i64 (s.1 + ((i : Nat) : Int) : Int)) ?_; refine pT (.pointer (some ⟨O5, 1, none⟩)) ?_
  refine pU (.int .i64 s.2) (ex_load rfl (by kernel_rfl) (ld3 (bO5_t36.1))) ?_
  refine pU (.bool false) (ev_ndec (show _ = Result.ok (Next.value (Value.bool (decide ((s.1 + ((i : Nat) : Int) : Int) < (s.2 : Int))))) _ from by kernel_rfl) (by omega)) ?_
  refine pl_nil ?_; refine qw_then ?_
  refine cw_f (by kernel_rfl) ?_
  refine cw_exit ?_
  refine qw_then_exit ?_
  refine qw_then_exit ?_
  refine qw_block_out ?_
  refine qw_then ?_; refine cw_seq ?_; refine cw_plain ?_
  refine pU (.agg #[.slice (some ⟨B15, 0, none⟩) 24 24]) (ex_load rfl (by kernel_rfl) (ld31 (bO21_t39.1))) ?_
  refine pP (sn_set (O := O9) (j := 0) (v := .slice (some ⟨B15, 0, none⟩) 24 24) (ex_store (p := .pointer (some ⟨O9, 0, none⟩)) (v := .agg #[.slice (some ⟨B15, 0, none⟩) 24 24]) rfl (by kernel_rfl) (by kernel_rfl) (st31 bO9_t37.1 bO9_t37.2)) bO9_t37 ?_)
  intro X57 ho hv0 hk; replace hE := ho.ext hE (T (T hs3 hs7) (Nat.le_of_eq hzO9))
  have q9 := fun (j : Nat) (v : Value) (h : BoxAt _ O1 j v) => ho.box (Nat.ne_of_gt (Nat.lt_of_lt_of_le lt4 (T hs7 (Nat.le_of_eq hzO9)))) h
  replace bO1_t28 := q9 _ _ bO1_t28; replace bO1_t29 := q9 _ _ bO1_t29; replace bO1_t30 := q9 _ _ bO1_t30; replace bO1_t31 := q9 _ _ bO1_t31; replace bO1_t32 := q9 _ _ bO1_t32; replace bO1_t33 := q9 _ _ bO1_t33; replace bO1_t34 := q9 _ _ bO1_t34; clear q9
  have q9 := fun (j : Nat) (v : Value) (h : BoxAt _ O5 j v) => ho.box (Nat.ne_of_gt (Nat.lt_of_lt_of_le lt8 (Nat.le_of_eq hzO9))) h
  replace bO5_t35 := q9 _ _ bO5_t35; replace bO5_t36 := q9 _ _ bO5_t36; clear q9; replace bO21_t39 := ho.box (Nat.ne_of_lt (Nat.lt_of_lt_of_le lt12 (T (T hs14 hs19) (Nat.le_of_eq hzO21)))) bO21_t39; replace hr9 := ho.rows (Nat.ne_of_lt (Nat.lt_of_lt_of_le lt12 (T hs14 hn16))) hr9; have hs58 : w41.heap.size ≤ X57.heap.size := Nat.le_of_eq ho.size.symm; clear ho hk bO9_t37; have bO9_t37 := hv0; clear hv0; refine pT (.int .i64 0) ?_; refine pl_nil ?_; refine qw_then ?_
  refine cw_ret ?_
  refine qw_ret [.agg #[.slice (some ⟨B15, 0, none⟩) 24 24], .int .i64 0] rfl ⟨⟨_, by kernel_rfl, res_ld (ld31 (bO9_t37.1))⟩, (by kernel_rfl), trivial⟩ ?_
  exact ⟨B15, rfl, (T (T hs3 (T hs7 (T hs11 hs14))) hn16), hin ▸ hr9, hE⟩
set_option maxRecDepth 1000000 in
set_option maxHeartbeats 4000000 in
theorem rShown_n {o : Orb} {s : Int × Int} {lk d : Int} (w : World) (hd8 : shdB o s lk d = false) : Calls Try.prog 15 #[.agg #[.int .i64 o.p, .int .i64 o.f, .int .i64 o.lo, .int .i64 o.hi, .int .i64 o.nd, .int .i64 o.tn, .int .i64 o.sl], .agg #[.int .i64 s.1, .int .i64 s.2], .int .i64 lk, .int .i64 d] w (RetErr w 80) := by
 refine calls_cw 62 [(3, .int .i64 d), (2, .int .i64 lk), (1, .agg #[.int .i64 s.1, .int .i64 s.2]), (0, .agg #[.int .i64 o.p, .int .i64 o.f, .int .i64 o.lo, .int .i64 o.hi, .int .i64 o.nd, .int .i64 o.tn, .int .i64 o.sl])] Try.func15 rfl Try.ntmps15 (by kernel_rfl) (by kernel_rfl) (fun L => ?_)
 have hE : Ext w w := Ext.refl w
 refine cw_seq ?_; refine cw_plain ?_
 refine pS (sn_new (us := #[.int .i64 o.p, .int .i64 o.f, .int .i64 o.lo, .int .i64 o.hi, .int .i64 o.nd, .int .i64 o.tn, .int .i64 o.sl]) (t := 24) (by kernel_rfl) ?_)
 intro O1 X2 hzO1 hyO1 hb hbx; have ⟨bO1_0, bO1_1, bO1_2, bO1_3, bO1_4, bO1_5, bO1_6⟩ := bx7 hbx; clear hbx
 replace hE := hE.trans hb; have hs3 := hb.size; clear hb; have lt4 := bO1_0.lt
 refine pS (sn_new (us := #[.int .i64 s.1, .int .i64 s.2]) (t := 26) (by kernel_rfl) ?_)
 intro O5 X6 hzO5 hyO5 hb hbx; have ⟨bO5_0, bO5_1⟩ := bx2 hbx; clear hbx
 replace hE := hE.trans hb; replace bO1_0 := BoxAt.ext hb bO1_0; replace bO1_1 := BoxAt.ext hb bO1_1; replace bO1_2 := BoxAt.ext hb bO1_2; replace bO1_3 := BoxAt.ext hb bO1_3; replace bO1_4 := BoxAt.ext hb bO1_4; replace bO1_5 := BoxAt.ext hb bO1_5; replace bO1_6 := BoxAt.ext hb bO1_6; have hs7 := hb.size; clear hb; have lt8 := bO5_0.lt
 refine pS (sn_new (us := #[.slice none 0 0]) (t := 31) (by kernel_rfl) ?_)
 intro O9 X10 hzO9 hyO9 hb hbx; have bO9_0 := bx1 hbx; clear hbx
 replace hE := hE.trans hb; replace bO1_0 := BoxAt.ext hb bO1_0; replace bO1_1 := BoxAt.ext hb bO1_1; replace bO1_2 := BoxAt.ext hb bO1_2; replace bO1_3 := BoxAt.ext hb bO1_3; replace bO1_4 := BoxAt.ext hb bO1_4; replace bO1_5 := BoxAt.ext hb bO1_5; replace bO1_6 := BoxAt.ext hb bO1_6; replace bO5_0 := BoxAt.ext hb bO5_0; replace bO5_1 := BoxAt.ext hb bO5_1; have hs11 := hb.size; clear hb; have lt12 := bO9_0.lt; refine pT (.int .i64 0) ?_; refine pl_nil ?_; refine qw_then ?_; refine cw_seq ?_; refine cw_seq ?_; have hX13 : Ext X10 X10 := Ext.refl _; refine cw_plain ?_
 refine pU (.agg #[.int .i64 o.p, .int .i64 o.f, .int .i64 o.lo, .int .i64 o.hi, .int .i64 o.nd, .int .i64 o.tn, .int .i64 o.sl]) (ex_load rfl (by kernel_rfl) (ld24 (bO1_0.1) (bO1_1.1) (bO1_2.1) (bO1_3.1) (bO1_4.1) (bO1_5.1) (bO1_6.1))) ?_
 refine pU (.agg #[.int .i64 s.1, .int .i64 s.2]) (ex_load rfl (by kernel_rfl) (ld26 (bO5_0.1) (bO5_1.1))) ?_
 refine pT (.int .i64 lk) ?_
 rcases Bool.eq_false_or_eq_true (Swath.shB o s lk) with hb14 | hb14
 ·
  have hq0 := Orb.ok_t.1 (Swath.shB_t.1 hb14).1
  refine pS (sn_call (f := 23) (args := #[.agg #[.int .i64 o.p, .int .i64 o.f, .int .i64 o.lo, .int .i64 o.hi, .int .i64 o.nd, .int .i64 o.tn, .int .i64 o.sl], .agg #[.int .i64 s.1, .int .i64 s.2], .int .i64 lk]) (by kernel_rfl) ((rValid8_r (r := true) o s lk _ (hb14)).mono ?_))
  rintro e w15 ⟨rfl, hb⟩
  replace hE := hE.trans hb; replace hX13 := hX13.trans hb; have hs16 := hb.size; clear hb
  refine ⟨_, rfl, ?_⟩
  refine pT (.bool false) ?_; refine pT (.bool false) ?_; refine pT (.int .i64 d) ?_; refine pT (.pointer (some ⟨O1, 6, none⟩)) ?_
  refine pU (.int .i64 o.sl) (ex_load rfl (by kernel_rfl) (ld3 ((BoxAt.ext hX13 bO1_6).1))) ?_
  refine pU (.int .i64 (-o.sl : Int)) (ev_int (ev_wrap (a := 0 - o.sl) (by kernel_rfl) (by omega) (by omega)) (by omega)) ?_
  by_cases hc17 : (d : Int) < (-o.sl : Int)
  ·
   refine pU (.bool true) (ev_dec (show _ = Result.ok (Next.value (Value.bool (decide ((d : Int) < (-o.sl : Int))))) _ from by kernel_rfl) (hc17)) ?_
   refine pT (.bool true) ?_; refine pT (.bool true) ?_; refine pK ?_; refine pK ?_; refine pK ?_; refine pK ?_; refine pT (.bool true) ?_; refine pl_nil ?_; refine qw_then ?_; refine cC6 2 3 4 5 8 30 (fun L => ?_)
   refine cw_t (by kernel_rfl) ?_
   refine cw_seq ?_; refine cw_plain ?_; refine pT (.agg #[.slice none 0 0]) ?_
   have bO1_t19 := (BoxAt.ext hX13 bO1_0)
   have bO1_t20 := (BoxAt.ext hX13 bO1_1)
   have bO1_t21 := (BoxAt.ext hX13 bO1_2)
   have bO1_t22 := (BoxAt.ext hX13 bO1_3)
   have bO1_t23 := (BoxAt.ext hX13 bO1_4)
   have bO1_t24 := (BoxAt.ext hX13 bO1_5)
   have bO1_t25 := (BoxAt.ext hX13 bO1_6)
   have bO5_t26 := (BoxAt.ext hX13 bO5_0)
   have bO5_t27 := (BoxAt.ext hX13 bO5_1)
   have bO9_t28 := (BoxAt.ext hX13 bO9_0)
   refine pP (sn_set (O := O9) (j := 0) (v := .slice none 0 0) (ex_store (p := .pointer (some ⟨O9, 0, none⟩)) (v := .agg #[.slice none 0 0]) rfl (by kernel_rfl) (by kernel_rfl) (st31 bO9_t28.1 bO9_t28.2)) bO9_t28 ?_)
   intro X18 ho hv0 hk; replace hE := ho.ext hE (T (T hs3 hs7) (Nat.le_of_eq hzO9))
   have q9 := fun (j : Nat) (v : Value) (h : BoxAt _ O1 j v) => ho.box (Nat.ne_of_gt (Nat.lt_of_lt_of_le lt4 (T hs7 (Nat.le_of_eq hzO9)))) h
   replace bO1_t19 := q9 _ _ bO1_t19; replace bO1_t20 := q9 _ _ bO1_t20; replace bO1_t21 := q9 _ _ bO1_t21; replace bO1_t22 := q9 _ _ bO1_t22; replace bO1_t23 := q9 _ _ bO1_t23; replace bO1_t24 := q9 _ _ bO1_t24; replace bO1_t25 := q9 _ _ bO1_t25; clear q9
   have q9 := fun (j : Nat) (v : Value) (h : BoxAt _ O5 j v) => ho.box (Nat.ne_of_gt (Nat.lt_of_lt_of_le lt8 (Nat.le_of_eq hzO9))) h
   replace bO5_t26 := q9 _ _ bO5_t26; replace bO5_t27 := q9 _ _ bO5_t27; clear q9; have hs29 : w15.heap.size ≤ X18.heap.size := Nat.le_of_eq ho.size.symm; clear ho hk bO9_t28; have bO9_t28 := hv0; clear hv0; refine pT (.int .i64 80) ?_; refine pl_nil ?_; refine qw_then ?_
   refine cw_ret ?_
   refine qw_then_ret ?_
   refine qw_ret [.agg #[.slice none 0 0], .int .i64 80] rfl ⟨⟨_, by kernel_rfl, res_ld (ld31 (bO9_t28.1))⟩, (by kernel_rfl), trivial⟩ ?_
   exact ⟨rfl, hE⟩
  ·
   refine pU (.bool false) (ev_ndec (show _ = Result.ok (Next.value (Value.bool (decide ((d : Int) < (-o.sl : Int))))) _ from by kernel_rfl) (hc17)) ?_
   refine pT (.bool false) ?_; refine pT (.bool false) ?_; refine pT (.int .i64 d) ?_; refine pT (.pointer (some ⟨O1, 6, none⟩)) ?_
   refine pU (.int .i64 o.sl) (ex_load rfl (by kernel_rfl) (ld3 ((BoxAt.ext hX13 bO1_6).1))) ?_
   by_cases hc30 : (d : Int) > (o.sl : Int)
   ·
    refine pU (.bool true) (ev_dec (show _ = Result.ok (Next.value (Value.bool (decide ((d : Int) > (o.sl : Int))))) _ from by kernel_rfl) (hc30)) ?_
    refine pT (.bool true) ?_; refine pl_nil ?_; refine qw_then ?_; refine cC6 2 3 4 5 8 30 (fun L => ?_)
    refine cw_t (by kernel_rfl) ?_
    refine cw_seq ?_; refine cw_plain ?_; refine pT (.agg #[.slice none 0 0]) ?_
    have bO1_t32 := (BoxAt.ext hX13 bO1_0)
    have bO1_t33 := (BoxAt.ext hX13 bO1_1)
    have bO1_t34 := (BoxAt.ext hX13 bO1_2)
    have bO1_t35 := (BoxAt.ext hX13 bO1_3)
    have bO1_t36 := (BoxAt.ext hX13 bO1_4)
    have bO1_t37 := (BoxAt.ext hX13 bO1_5)
    have bO1_t38 := (BoxAt.ext hX13 bO1_6)
    have bO5_t39 := (BoxAt.ext hX13 bO5_0)
    have bO5_t40 := (BoxAt.ext hX13 bO5_1)
    have bO9_t41 := (BoxAt.ext hX13 bO9_0)
    refine pP (sn_set (O := O9) (j := 0) (v := .slice none 0 0) (ex_store (p := .pointer (some ⟨O9, 0, none⟩)) (v := .agg #[.slice none 0 0]) rfl (by kernel_rfl) (by kernel_rfl) (st31 bO9_t41.1 bO9_t41.2)) bO9_t41 ?_)
    intro X31 ho hv0 hk; replace hE := ho.ext hE (T (T hs3 hs7) (Nat.le_of_eq hzO9))
    have q9 := fun (j : Nat) (v : Value) (h : BoxAt _ O1 j v) => ho.box (Nat.ne_of_gt (Nat.lt_of_lt_of_le lt4 (T hs7 (Nat.le_of_eq hzO9)))) h
    replace bO1_t32 := q9 _ _ bO1_t32; replace bO1_t33 := q9 _ _ bO1_t33; replace bO1_t34 := q9 _ _ bO1_t34; replace bO1_t35 := q9 _ _ bO1_t35; replace bO1_t36 := q9 _ _ bO1_t36; replace bO1_t37 := q9 _ _ bO1_t37; replace bO1_t38 := q9 _ _ bO1_t38; clear q9
    have q9 := fun (j : Nat) (v : Value) (h : BoxAt _ O5 j v) => ho.box (Nat.ne_of_gt (Nat.lt_of_lt_of_le lt8 (Nat.le_of_eq hzO9))) h
    replace bO5_t39 := q9 _ _ bO5_t39; replace bO5_t40 := q9 _ _ bO5_t40; clear q9; have hs42 : w15.heap.size ≤ X31.heap.size := Nat.le_of_eq ho.size.symm; clear ho hk bO9_t41; have bO9_t41 := hv0; clear hv0; refine pT (.int .i64 80) ?_; refine pl_nil ?_; refine qw_then ?_
    refine cw_ret ?_
    refine qw_then_ret ?_
    refine qw_ret [.agg #[.slice none 0 0], .int .i64 80] rfl ⟨⟨_, by kernel_rfl, res_ld (ld31 (bO9_t41.1))⟩, (by kernel_rfl), trivial⟩ ?_
    exact ⟨rfl, hE⟩
   ·
    refine pU (.bool false) (ev_ndec (show _ = Result.ok (Next.value (Value.bool (decide ((d : Int) > (o.sl : Int))))) _ from by kernel_rfl) (hc30)) ?_
    refine pT (.bool false) ?_; refine pl_nil ?_; refine qw_then ?_; refine cC6 2 3 4 5 8 30 (fun L => ?_)
    refine cw_f (by kernel_rfl) ?_
    refine cw_skip ?_
    refine qw_then ?_; refine cw_seq ?_
    exfalso; simp [shdB, Globe.inB, hb14] at hd8; omega
 ·
  refine pS (sn_call (f := 23) (args := #[.agg #[.int .i64 o.p, .int .i64 o.f, .int .i64 o.lo, .int .i64 o.hi, .int .i64 o.nd, .int .i64 o.tn, .int .i64 o.sl], .agg #[.int .i64 s.1, .int .i64 s.2], .int .i64 lk]) (by kernel_rfl) ((rValid8_r (r := false) o s lk _ (hb14)).mono ?_))
  rintro e w43 ⟨rfl, hb⟩
  replace hE := hE.trans hb; replace hX13 := hX13.trans hb; have hs44 := hb.size; clear hb
  refine ⟨_, rfl, ?_⟩
  refine pT (.bool true) ?_; refine pT (.bool true) ?_; refine pK ?_; refine pK ?_; refine pK ?_; refine pK ?_; refine pK ?_; refine pT (.bool true) ?_; refine pT (.bool true) ?_; refine pK ?_; refine pK ?_; refine pK ?_; refine pK ?_; refine pT (.bool true) ?_; refine pl_nil ?_; refine qw_then ?_; refine cC6 2 3 4 5 8 30 (fun L => ?_)
  refine cw_t (by kernel_rfl) ?_
  refine cw_seq ?_; refine cw_plain ?_; refine pT (.agg #[.slice none 0 0]) ?_
  have bO1_t46 := (BoxAt.ext hX13 bO1_0)
  have bO1_t47 := (BoxAt.ext hX13 bO1_1)
  have bO1_t48 := (BoxAt.ext hX13 bO1_2)
  have bO1_t49 := (BoxAt.ext hX13 bO1_3)
  have bO1_t50 := (BoxAt.ext hX13 bO1_4)
  have bO1_t51 := (BoxAt.ext hX13 bO1_5)
  have bO1_t52 := (BoxAt.ext hX13 bO1_6)
  have bO5_t53 := (BoxAt.ext hX13 bO5_0)
  have bO5_t54 := (BoxAt.ext hX13 bO5_1)
  have bO9_t55 := (BoxAt.ext hX13 bO9_0)
  refine pP (sn_set (O := O9) (j := 0) (v := .slice none 0 0) (ex_store (p := .pointer (some ⟨O9, 0, none⟩)) (v := .agg #[.slice none 0 0]) rfl (by kernel_rfl) (by kernel_rfl) (st31 bO9_t55.1 bO9_t55.2)) bO9_t55 ?_)
  intro X45 ho hv0 hk; replace hE := ho.ext hE (T (T hs3 hs7) (Nat.le_of_eq hzO9))
  have q9 := fun (j : Nat) (v : Value) (h : BoxAt _ O1 j v) => ho.box (Nat.ne_of_gt (Nat.lt_of_lt_of_le lt4 (T hs7 (Nat.le_of_eq hzO9)))) h
  replace bO1_t46 := q9 _ _ bO1_t46; replace bO1_t47 := q9 _ _ bO1_t47; replace bO1_t48 := q9 _ _ bO1_t48; replace bO1_t49 := q9 _ _ bO1_t49; replace bO1_t50 := q9 _ _ bO1_t50; replace bO1_t51 := q9 _ _ bO1_t51; replace bO1_t52 := q9 _ _ bO1_t52; clear q9
  have q9 := fun (j : Nat) (v : Value) (h : BoxAt _ O5 j v) => ho.box (Nat.ne_of_gt (Nat.lt_of_lt_of_le lt8 (Nat.le_of_eq hzO9))) h
  replace bO5_t53 := q9 _ _ bO5_t53; replace bO5_t54 := q9 _ _ bO5_t54; clear q9; have hs56 : w43.heap.size ≤ X45.heap.size := Nat.le_of_eq ho.size.symm; clear ho hk bO9_t55; have bO9_t55 := hv0; clear hv0; refine pT (.int .i64 80) ?_; refine pl_nil ?_; refine qw_then ?_
  refine cw_ret ?_
  refine qw_then_ret ?_
  refine qw_ret [.agg #[.slice none 0 0], .int .i64 80] rfl ⟨⟨_, by kernel_rfl, res_ld (ld31 (bO9_t55.1))⟩, (by kernel_rfl), trivial⟩ ?_
  exact ⟨rfl, hE⟩

end Go.Proofs.Ytdjjkhefdalokaa

/- An array of ints in a block of one's own, by a function. -/
namespace Go.Proofs.Ytdjjkhefdalokaa
open Go.RowKit
def ArrAt (w : World) (B n : Nat) (f : Nat → Int) : Prop := 0 < n ∧ ∀ k, k < n → BoxAt w B k (.int .i64 (f k))
theorem ArrAt.at {w : World} {B n : Nat} {f : Nat → Int} (h : ArrAt w B n f) {k : Nat} (hk : k < n) : BoxAt w B k (.int .i64 (f k)) := h.2 k hk
theorem ArrAt.ext {w w' : World} {B n : Nat} {f : Nat → Int} (h : ArrAt w B n f) (hE : Ext w w') : ArrAt w' B n f := ⟨h.1, fun k hk => BoxAt.ext hE (h.2 k hk)⟩
theorem ArrAt.lt {w : World} {B n : Nat} {f : Nat → Int} (h : ArrAt w B n f) : B < w.heap.size := (h.2 0 h.1).lt
theorem Turns.arr {O : Nat} {w X : World} (h : Turns O w X) {B n : Nat} {f : Nat → Int} (hb : O ≠ B) (hv : ArrAt w B n f) : ArrAt X B n f := ⟨hv.1, fun k hk => h.box hb (hv.2 k hk)⟩
def upd (f : Nat → Int) (j : Nat) (v : Int) (k : Nat) : Int := if k = j then v else f k
theorem ArrAt.upd {w X : World} {B n j : Nat} {f : Nat → Int} {v : Int} (h : ArrAt w B n f) (hv : BoxAt X B j (.int .i64 v)) (hk : ∀ i x, i ≠ j → BoxAt w B i x → BoxAt X B i x) : ArrAt X B n (upd f j v) :=
 ⟨h.1, fun k hn => by
  unfold Go.Proofs.Ytdjjkhefdalokaa.upd
  by_cases e : k = j
  · subst e; rw [if_pos rfl]; exact hv
  · rw [if_neg e]; exact hk k _ e (h.2 k hn)⟩
theorem ArrAt.congr {w : World} {B n : Nat} {f g : Nat → Int} (h : ArrAt w B n f) (e : ∀ k, k < n → f k = g k) : ArrAt w B n g := ⟨h.1, fun k hk => by rw [← e k hk]; exact h.2 k hk⟩
section
variable {P : Program} {w : World}
theorem sn_newA {ev : Operand → Value} {oi : Oper} {N : Value → World → Prop} {n : Nat} {t : TypeId} (hn : 0 < n) (h1 : (execOp ev oi).run P w = .ok (.value (.pointer (some ⟨w.heap.size, 0, none⟩))) (w.alloc (.cells (Array.replicate n (.int .i64 0)) t)))
  (h : ∀ O X, w.heap.size = O → X.heap.size = O + 1 → Ext w X → ArrAt X O n (fun _ => 0) → N (.pointer (some ⟨O, 0, none⟩)) X) : StepN P ev oi w N :=
 sn_new h1 fun O X hO hX hE hb => h O X hO hX hE ⟨hn, fun k hk => hb k _ (by rw [Array.getElem?_replicate, if_pos hk])⟩
end
theorem ia80 {w : World} {b k : Nat} (hk : k < 24) : (Instr.indexAt 80 (.pointer (some ⟨b, 0, none⟩)) (.int .i64 k)).run Try.prog w = .ok (.pointer (some ⟨b, k * 48, none⟩)) w := by
 have : (0 : Int) ≤ (k : Int) := by omega
 have : (k : Int) < 24 := by omega
 go_simp
theorem ia79 {w : World} {b o k : Nat} (hk : k < 48) : (Instr.indexAt 79 (.pointer (some ⟨b, o, none⟩)) (.int .i64 k)).run Try.prog w = .ok (.pointer (some ⟨b, o + k, none⟩)) w := by
 have : (0 : Int) ≤ (k : Int) := by omega
 have : (k : Int) < 48 := by omega
 go_simp
end Go.Proofs.Ytdjjkhefdalokaa

/- Counting what is shown with each delay. -/
namespace Go.Proofs.Ytdjjkhefdalokaa
namespace Swath
open Globe
def bitI (L : List Int) (k : Nat) : Int := if hasL L (k % 48) (k / 48) = true then 1 else 0
theorem bitI_bd (L : List Int) (k : Nat) : 0 ≤ bitI L k ∧ bitI L k ≤ 1 := by unfold bitI; split <;> omega
theorem bitI_eq (L : List Int) (y : Nat) {x : Nat} (hx : x < 48) : (((rowN L y / 2 ^ x : Nat) : Int)).tmod 2 = bitI L (y * 48 + x) := by
 unfold bitI
 rw [show (y * 48 + x) % 48 = x by omega, show (y * 48 + x) / 48 = y by omega, ← rowN_bit, Nat.testBit_eq_decide_div_mod_eq]
 generalize rowN L y / 2 ^ x = q
 rw [Int.tmod_eq_emod_of_nonneg (by omega)]
 by_cases h : q % 2 = 1
 · rw [if_pos (decide_eq_true h)]; omega
 · rw [if_neg (by rw [decide_eq_true_iff]; exact h)]; omega
/-- How many of the first areas have the k-th cell. -/
def cnt (A : Nat → List Int) : Nat → Nat → Int
 | 0, _ => 0
 | j + 1, k => cnt A j k + bitI (A j) k
def midC (A : Nat → List Int) (j p k : Nat) : Int := if k < p then cnt A (j + 1) k else cnt A j k
theorem mid_0 {A : Nat → List Int} {j k : Nat} : cnt A j k = midC A j (0 * 48) k := by unfold midC; rw [if_neg (by omega)]
theorem mid_all {A : Nat → List Int} {j p k : Nat} (h : k < p) : midC A j p k = cnt A (j + 1) k := if_pos h
theorem mid_upd {A : Nat → List Int} {j p : Nat} (k : Nat) : upd (midC A j p) p (midC A j p p + bitI (A j) p) k = midC A j (p + 1) k := by
  unfold upd midC
  by_cases h : k = p
  · subst h; rw [if_pos rfl, if_neg (Nat.lt_irrefl k), if_pos (Nat.lt_succ_self k)]; rfl
  · rw [if_neg h]
    by_cases q : k < p
    · rw [if_pos q, if_pos (by omega)]
    · rw [if_neg q, if_neg (by omega)]
theorem cnt_bd (A : Nat → List Int) : ∀ j k, 0 ≤ cnt A j k ∧ cnt A j k ≤ ((j : Nat) : Int)
 | 0, k => ⟨Int.le_refl _, Int.le_refl _⟩
 | j + 1, k => by
  have h1 := cnt_bd A j k
  have h2 := bitI_bd (A j) k
  show 0 ≤ cnt A j k + bitI (A j) k ∧ cnt A j k + bitI (A j) k ≤ ((j + 1 : Nat) : Int)
  omega
theorem mid_bd (A : Nat → List Int) (j p k : Nat) : 0 ≤ midC A j p k ∧ midC A j p k ≤ ((j : Nat) : Int) + 1 := by
 have h1 := cnt_bd A j k
 have h2 := cnt_bd A (j + 1) k
 unfold midC; split <;> omega
theorem cnt_all {A : Nat → List Int} {k : Nat} : ∀ n, (cnt A n k = ((n : Nat) : Int) ↔ ∀ j, j < n → hasL (A j) (k % 48) (k / 48) = true)
  | 0 => ⟨fun _ j h => absurd h (Nat.not_lt_zero _), fun _ => rfl⟩
  | n + 1 => by
    have h1 := cnt_bd A n k
    have ih := cnt_all (A := A) (k := k) n
    show cnt A n k + bitI (A n) k = ((n + 1 : Nat) : Int) ↔ _
    unfold bitI
    by_cases h : hasL (A n) (k % 48) (k / 48) = true
    · rw [if_pos h]
      constructor
      · intro h2 j hj
        rcases Nat.lt_or_ge j n with q | q
        · exact ih.1 (by omega) j q
        · obtain rfl : j = n := by omega
          exact h
      · intro h2
        have := ih.2 fun j hj => h2 j (by omega)
        omega
    · rw [if_neg h]
      constructor
      · intro h2; omega
      · intro h2; exact absurd (h2 n (by omega)) h
theorem cnt_any {A : Nat → List Int} {k : Nat} : ∀ n, (0 < cnt A n k ↔ ∃ j, j < n ∧ hasL (A j) (k % 48) (k / 48) = true)
  | 0 => ⟨fun h => absurd h (Int.lt_irrefl _), fun ⟨_, h, _⟩ => absurd h (Nat.not_lt_zero _)⟩
  | n + 1 => by
    have h1 := cnt_bd A n k
    have ih := cnt_any (A := A) (k := k) n
    show 0 < cnt A n k + bitI (A n) k ↔ _
    unfold bitI
    by_cases h : hasL (A n) (k % 48) (k / 48) = true
    · rw [if_pos h]; exact ⟨fun _ => ⟨n, by omega, h⟩, fun _ => by omega⟩
    · rw [if_neg h]
      constructor
      · intro h2
        obtain ⟨j, hj, h3⟩ := ih.1 (by omega)
        exact ⟨j, by omega, h3⟩
      · rintro ⟨j, hj, h3⟩
        rcases Nat.lt_or_ge j n with q | q
        · have := ih.2 ⟨j, q, h3⟩; omega
        · obtain rfl : j = n := by omega
          exact absurd h3 h
/-- The cells below the p-th one that b has. -/
def partS (b : Nat → Bool) : Nat → List Int
 | 0 => zeroL
 | p + 1 => if b p = true then putL (partS b p) (p % 48) (p / 48) else partS b p
theorem part_valid (b : Nat → Bool) : ∀ p, validL (partS b p) = true
 | 0 => valid_zero
 | p + 1 => by
  unfold partS
  split
  · exact valid_put (part_valid b p) (by omega)
  · exact part_valid b p
theorem has_part (b : Nat → Bool) {x y : Nat} (hx : x < 48) : ∀ p, p ≤ 1152 → hasL (partS b p) x y = (decide (y * 48 + x < p) && b (y * 48 + x))
  | 0, _ => by rw [show partS b 0 = zeroL from rfl, has_zero]; simp
  | p + 1, hp => by
    have ih := has_part b (y := y) hx p (by omega)
    unfold partS
    by_cases h : b p = true
    · rw [if_pos h, has_put (by rw [len_of_valid (part_valid b p)]; omega), ih]
      by_cases q : y * 48 + x = p
      · subst q
        rw [show (y * 48 + x) % 48 = x by omega, show (y * 48 + x) / 48 = y by omega, h]; simp
      · have e : (decide (p % 48 = x) && decide (p / 48 = y)) = false := by
          rw [Bool.and_eq_false_iff, decide_eq_false_iff_not, decide_eq_false_iff_not]; omega
        rw [e, Bool.or_false]
        congr 1
        exact decide_eq_decide.2 (by omega)
    · rw [if_neg h, ih]
      by_cases q : y * 48 + x = p
      · subst q; simp [h]
      · congr 1; exact decide_eq_decide.2 (by omega)
theorem part_put {b : Nat → Bool} {x y : Nat} (hx : x < 48) (h : b (y * 48 + x) = true) : (partS b (y * 48 + x)).set y ((rowN (partS b (y * 48 + x)) y ||| 2 ^ x : Nat) : Int) = partS b (y * 48 + (x + 1)) := by
 show _ = partS b (y * 48 + x + 1)
 rw [show partS b (y * 48 + x + 1) = if b (y * 48 + x) = true then putL (partS b (y * 48 + x)) ((y * 48 + x) % 48) ((y * 48 + x) / 48) else partS b (y * 48 + x) from rfl, if_pos h, show (y * 48 + x) % 48 = x by omega, show (y * 48 + x) / 48 = y by omega]
 rfl
theorem part_skip {b : Nat → Bool} {x y : Nat} (h : b (y * 48 + x) = false) : partS b (y * 48 + x) = partS b (y * 48 + (x + 1)) := by
 show _ = partS b (y * 48 + x + 1)
 rw [show partS b (y * 48 + x + 1) = if b (y * 48 + x) = true then putL (partS b (y * 48 + x)) ((y * 48 + x) % 48) ((y * 48 + x) / 48) else partS b (y * 48 + x) from rfl, if_neg (by rw [h]; decide)]
def bS (o : Orb) (s : Int × Int) (lk : Int) (k : Nat) : Bool := decide (cnt (areaJ o s lk) (lates o) k = ((lates o : Nat) : Int))
def bC (o : Orb) (s : Int × Int) (lk : Int) (k : Nat) : Bool := decide (0 < cnt (areaJ o s lk) (lates o) k)
theorem sure_part {o : Orb} (h : Orb.ok o = true) (s : Int × Int) (lk : Int) : partS (bS o s lk) (24 * 48) = sureL o s lk :=
 ext_iff (part_valid _ _) (sure_valid h s lk) fun x y hx hy => by
  rw [has_part _ hx _ (by omega), has_sure h hy, decide_eq_true (show y * 48 + x < 24 * 48 by omega), Bool.true_and]
  unfold bS
  rw [decide_eq_true_iff, cnt_all, show (y * 48 + x) % 48 = x by omega, show (y * 48 + x) / 48 = y by omega]
theorem can_part {o : Orb} (h : Orb.ok o = true) (s : Int × Int) (lk : Int) : partS (bC o s lk) (24 * 48) = canL o s lk :=
 ext_iff (part_valid _ _) (can_valid h s lk) fun x y hx hy => by
  rw [has_part _ hx _ (by omega), has_can hy, decide_eq_true (show y * 48 + x < 24 * 48 by omega), Bool.true_and]
  unfold bC
  rw [decide_eq_true_iff, cnt_any, show (y * 48 + x) % 48 = x by omega, show (y * 48 + x) / 48 = y by omega]
end Swath
end Go.Proofs.Ytdjjkhefdalokaa

/- Contracts of the reference of chapter 8: Strip. -/
namespace Go.Proofs.Ytdjjkhefdalokaa
open Go.RowKit

theorem ArrAt.next {w : World} {B : Nat} {A : Nat → List Int} {j p : Nat} (h : ArrAt w B 1152 (Go.Proofs.Ytdjjkhefdalokaa.upd (Swath.midC A j p) p (Swath.midC A j p p + Swath.bitI (A j) p))) : ArrAt w B 1152 (Swath.midC A j (p + 1)) := h.congr fun k _ => Swath.mid_upd k
set_option maxRecDepth 1000000 in
set_option maxHeartbeats 4000000 in
theorem rStrip_y {o : Orb} {s : Int × Int} {lk : Int} (w : World) (hv : Swath.shB o s lk = true) : Calls Try.prog 18 #[.agg #[.int .i64 o.p, .int .i64 o.f, .int .i64 o.lo, .int .i64 o.hi, .int .i64 o.nd, .int .i64 o.tn, .int .i64 o.sl], .agg #[.int .i64 s.1, .int .i64 s.2], .int .i64 lk] w (RetSE w (Swath.sureL o s lk) (Swath.canL o s lk)) := by
 obtain ⟨hok, ⟨sp0, sp1, sp2, sp3⟩, hl0, hl1⟩ := Swath.shB_t.1 hv
 have hq0 := Orb.ok_t.1 hok
 have hN : Swath.lates o = (2 * o.sl + 1).toNat := rfl
 refine calls_cw 125 [(2, .int .i64 lk), (1, .agg #[.int .i64 s.1, .int .i64 s.2]), (0, .agg #[.int .i64 o.p, .int .i64 o.f, .int .i64 o.lo, .int .i64 o.hi, .int .i64 o.nd, .int .i64 o.tn, .int .i64 o.sl])] Try.func18 rfl Try.ntmps18 (by kernel_rfl) (by kernel_rfl) (fun L => ?_)
 have hE : Ext w w := Ext.refl w
 refine cw_seq ?_; refine cw_plain ?_
 refine pS (sn_new (us := #[.int .i64 o.p, .int .i64 o.f, .int .i64 o.lo, .int .i64 o.hi, .int .i64 o.nd, .int .i64 o.tn, .int .i64 o.sl]) (t := 24) (by kernel_rfl) ?_)
 intro O1 X2 hzO1 hyO1 hb hbx; have ⟨bO1_0, bO1_1, bO1_2, bO1_3, bO1_4, bO1_5, bO1_6⟩ := bx7 hbx; clear hbx
 replace hE := hE.trans hb; have hs3 := hb.size; clear hb; have lt4 := bO1_0.lt
 refine pS (sn_new (us := #[.int .i64 s.1, .int .i64 s.2]) (t := 26) (by kernel_rfl) ?_)
 intro O5 X6 hzO5 hyO5 hb hbx; have ⟨bO5_0, bO5_1⟩ := bx2 hbx; clear hbx
 replace hE := hE.trans hb; replace bO1_0 := BoxAt.ext hb bO1_0; replace bO1_1 := BoxAt.ext hb bO1_1; replace bO1_2 := BoxAt.ext hb bO1_2; replace bO1_3 := BoxAt.ext hb bO1_3; replace bO1_4 := BoxAt.ext hb bO1_4; replace bO1_5 := BoxAt.ext hb bO1_5; replace bO1_6 := BoxAt.ext hb bO1_6; have hs7 := hb.size; clear hb; have lt8 := bO5_0.lt
 refine pS (sn_new (us := #[.slice none 0 0, .slice none 0 0]) (t := 44) (by kernel_rfl) ?_)
 intro O9 X10 hzO9 hyO9 hb hbx; have ⟨bO9_0, bO9_1⟩ := bx2 hbx; clear hbx
 replace hE := hE.trans hb; replace bO1_0 := BoxAt.ext hb bO1_0; replace bO1_1 := BoxAt.ext hb bO1_1; replace bO1_2 := BoxAt.ext hb bO1_2; replace bO1_3 := BoxAt.ext hb bO1_3; replace bO1_4 := BoxAt.ext hb bO1_4; replace bO1_5 := BoxAt.ext hb bO1_5; replace bO1_6 := BoxAt.ext hb bO1_6; replace bO5_0 := BoxAt.ext hb bO5_0; replace bO5_1 := BoxAt.ext hb bO5_1; have hs11 := hb.size; clear hb; have lt12 := bO9_0.lt; refine pT (.int .i64 0) ?_; refine pl_nil ?_; refine qw_then ?_; refine cw_seq ?_; refine cw_seq ?_; refine cw_plain ?_
 refine pU (.agg #[.int .i64 o.p, .int .i64 o.f, .int .i64 o.lo, .int .i64 o.hi, .int .i64 o.nd, .int .i64 o.tn, .int .i64 o.sl]) (ex_load rfl (by kernel_rfl) (ld24 (bO1_0.1) (bO1_1.1) (bO1_2.1) (bO1_3.1) (bO1_4.1) (bO1_5.1) (bO1_6.1))) ?_
 refine pU (.agg #[.int .i64 s.1, .int .i64 s.2]) (ex_load rfl (by kernel_rfl) (ld26 (bO5_0.1) (bO5_1.1))) ?_
 refine pT (.int .i64 lk) ?_
 refine pS (sn_call (f := 23) (args := #[.agg #[.int .i64 o.p, .int .i64 o.f, .int .i64 o.lo, .int .i64 o.hi, .int .i64 o.nd, .int .i64 o.tn, .int .i64 o.sl], .agg #[.int .i64 s.1, .int .i64 s.2], .int .i64 lk]) (by kernel_rfl) ((rValid8_r (r := true) o s lk _ (hv)).mono ?_))
 rintro e w13 ⟨rfl, hb⟩
 replace hE := hE.trans hb; replace bO1_0 := BoxAt.ext hb bO1_0; replace bO1_1 := BoxAt.ext hb bO1_1; replace bO1_2 := BoxAt.ext hb bO1_2; replace bO1_3 := BoxAt.ext hb bO1_3; replace bO1_4 := BoxAt.ext hb bO1_4; replace bO1_5 := BoxAt.ext hb bO1_5; replace bO1_6 := BoxAt.ext hb bO1_6; replace bO5_0 := BoxAt.ext hb bO5_0; replace bO5_1 := BoxAt.ext hb bO5_1; replace bO9_0 := BoxAt.ext hb bO9_0; replace bO9_1 := BoxAt.ext hb bO9_1; have hs14 := hb.size; clear hb
 refine ⟨_, rfl, ?_⟩
 refine pT (.bool false) ?_; refine pl_nil ?_; refine qw_then ?_
 refine cw_f (by kernel_rfl) ?_
 refine cw_skip ?_
 refine qw_then ?_; refine cw_seq ?_; refine cw_plain ?_
 refine pS (sn_newA (n := 1152) (t := 80) (by omega) (by kernel_rfl) ?_)
 intro O15 X16 hO hOs hb hm17
 have hzO15 := hO; have hyO15 := hOs; clear hO hOs
 replace hE := hE.trans hb; replace bO1_0 := BoxAt.ext hb bO1_0; replace bO1_1 := BoxAt.ext hb bO1_1; replace bO1_2 := BoxAt.ext hb bO1_2; replace bO1_3 := BoxAt.ext hb bO1_3; replace bO1_4 := BoxAt.ext hb bO1_4; replace bO1_5 := BoxAt.ext hb bO1_5; replace bO1_6 := BoxAt.ext hb bO1_6; replace bO5_0 := BoxAt.ext hb bO5_0; replace bO5_1 := BoxAt.ext hb bO5_1; replace bO9_0 := BoxAt.ext hb bO9_0; replace bO9_1 := BoxAt.ext hb bO9_1; have hs18 := hb.size; clear hb; have lt19 := hm17.lt; refine pl_nil ?_; refine qw_then ?_; refine cw_seq ?_; refine cw_seq ?_; refine cw_plain ?_; refine pT (.pointer (some ⟨O1, 6, none⟩)) ?_
 refine pU (.int .i64 o.sl) (ex_load rfl (by kernel_rfl) (ld3 (bO1_6.1))) ?_
 refine pU (.int .i64 (-o.sl : Int)) (ev_int (ev_wrap (a := 0 - o.sl) (by kernel_rfl) (by omega) (by omega)) (by omega)) ?_
 refine pU (.int .i64 (-o.sl + ((0 : Nat) : Int) : Int)) (ev_int (show _ = Result.ok (Next.value (Value.int .i64 (-o.sl))) _ from by kernel_rfl) (by omega)) ?_
 refine pl_nil ?_; refine qw_then ?_; refine cC6 2 3 4 6 8 9 (fun L => ?_)
 refine cw_block ?_
 have hX20 : Ext X16 X16 := Ext.refl _
 have bO1_t21 := bO1_0
 have bO1_t22 := bO1_1
 have bO1_t23 := bO1_2
 have bO1_t24 := bO1_3
 have bO1_t25 := bO1_4
 have bO1_t26 := bO1_5
 have bO1_t27 := bO1_6
 have bO5_t28 := bO5_0
 have bO5_t29 := bO5_1
 have bO9_t30 := bO9_0
 have bO9_t31 := bO9_1
 have hmt32 := hm17
 refine cw_loop [2, 3, 4, 6, 8, 9] (fun ws' wr m => ∃ j : Nat, ws' = [(2, .int .i64 lk), (3, .pointer (some ⟨O1, 0, none⟩)), (4, .pointer (some ⟨O5, 0, none⟩)), (6, .pointer (some ⟨O9, 0, none⟩)), (8, .pointer (some ⟨O15, 0, none⟩)), (9, .int .i64 (-o.sl + ((j : Nat) : Int) : Int))] ∧ m = Swath.lates o - j ∧ X16.heap.size ≤ wr.heap.size ∧ Ext w wr ∧ BoxAt wr O1 0 (.int .i64 o.p) ∧ BoxAt wr O1 1 (.int .i64 o.f) ∧ BoxAt wr O1 2 (.int .i64 o.lo) ∧ BoxAt wr O1 3 (.int .i64 o.hi) ∧ BoxAt wr O1 4 (.int .i64 o.nd) ∧ BoxAt wr O1 5 (.int .i64 o.tn) ∧ BoxAt wr O1 6 (.int .i64 o.sl) ∧ BoxAt wr O5 0 (.int .i64 s.1) ∧ BoxAt wr O5 1 (.int .i64 s.2) ∧ BoxAt wr O9 0 (.slice none 0 0) ∧ BoxAt wr O9 1 (.slice none 0 0) ∧ ArrAt wr O15 1152 (Swath.cnt (Swath.areaJ o s lk) j) ∧ j ≤ Swath.lates o) (ws0 := [(2, .int .i64 lk), (3, .pointer (some ⟨O1, 0, none⟩)), (4, .pointer (some ⟨O5, 0, none⟩)), (6, .pointer (some ⟨O9, 0, none⟩)), (8, .pointer (some ⟨O15, 0, none⟩)), (9, .int .i64 (-o.sl + ((0 : Nat) : Int) : Int))]) (by kernel_rfl) _ ⟨0, rfl, rfl, Nat.le_refl _, hE, bO1_t21, bO1_t22, bO1_t23, bO1_t24, bO1_t25, bO1_t26, bO1_t27, bO5_t28, bO5_t29, bO9_t30, bO9_t31, (hmt32.congr fun _ _ => rfl), Nat.zero_le _⟩ ?_
 clear bO1_t21 bO1_t22 bO1_t23 bO1_t24 bO1_t25 bO1_t26 bO1_t27 bO5_t28 bO5_t29 bO9_t30 bO9_t31 hmt32 hE
 rintro m35 L ws w34 ⟨j, rfl, rfl, hs33, hE, bO1_t21, bO1_t22, bO1_t23, bO1_t24, bO1_t25, bO1_t26, bO1_t27, bO5_t28, bO5_t29, bO9_t30, bO9_t31, hm9, hj⟩
 by_cases hlt : j < Swath.lates o
 ·
  have hltj := hlt; clear hlt; refine cw_seq ?_; refine cw_seq ?_; refine cw_plain ?_; refine pT (.int .i64 (-o.sl + ((j : Nat) : Int) : Int)) ?_; refine pT (.pointer (some ⟨O1, 6, none⟩)) ?_
  refine pU (.int .i64 o.sl) (ex_load rfl (by kernel_rfl) (ld3 (bO1_t27.1))) ?_
  refine pU (.bool true) (ev_dec (show _ = Result.ok (Next.value (Value.bool (decide ((-o.sl + ((j : Nat) : Int) : Int) ≤ (o.sl : Int))))) _ from by kernel_rfl) (by omega)) ?_
  refine pl_nil ?_; refine qw_then ?_
  refine cw_t (by kernel_rfl) ?_
  refine cw_skip ?_
  refine qw_then ?_; refine cw_seq ?_
  refine cw_block ?_
  refine cw_seq ?_; refine cw_plain ?_
  refine pU (.agg #[.int .i64 o.p, .int .i64 o.f, .int .i64 o.lo, .int .i64 o.hi, .int .i64 o.nd, .int .i64 o.tn, .int .i64 o.sl]) (ex_load rfl (by kernel_rfl) (ld24 (bO1_t21.1) (bO1_t22.1) (bO1_t23.1) (bO1_t24.1) (bO1_t25.1) (bO1_t26.1) (bO1_t27.1))) ?_
  refine pU (.agg #[.int .i64 s.1, .int .i64 s.2]) (ex_load rfl (by kernel_rfl) (ld26 (bO5_t28.1) (bO5_t29.1))) ?_
  refine pT (.int .i64 lk) ?_; refine pT (.int .i64 (-o.sl + ((j : Nat) : Int) : Int)) ?_
  refine pS (sn_call (f := 15) (args := #[.agg #[.int .i64 o.p, .int .i64 o.f, .int .i64 o.lo, .int .i64 o.hi, .int .i64 o.nd, .int .i64 o.tn, .int .i64 o.sl], .agg #[.int .i64 s.1, .int .i64 s.2], .int .i64 lk, .int .i64 (-o.sl + ((j : Nat) : Int) : Int)]) (by kernel_rfl) ((rShown_y (o := o) (s := s) (lk := lk) (d := -o.sl + ((j : Nat) : Int)) _ (Bool.and_eq_true_iff.2 ⟨hv, Globe.inB_t.2 ⟨by omega, by omega⟩⟩)).mono ?_))
  rintro e w39 ⟨B36, rfl, hn37, hr38, hb⟩
  replace hE := hE.trans hb; replace bO1_t21 := BoxAt.ext hb bO1_t21; replace bO1_t22 := BoxAt.ext hb bO1_t22; replace bO1_t23 := BoxAt.ext hb bO1_t23; replace bO1_t24 := BoxAt.ext hb bO1_t24; replace bO1_t25 := BoxAt.ext hb bO1_t25; replace bO1_t26 := BoxAt.ext hb bO1_t26; replace bO1_t27 := BoxAt.ext hb bO1_t27; replace bO5_t28 := BoxAt.ext hb bO5_t28; replace bO5_t29 := BoxAt.ext hb bO5_t29; replace bO9_t30 := BoxAt.ext hb bO9_t30; replace bO9_t31 := BoxAt.ext hb bO9_t31; replace hm9 := hm9.ext hb; have hs40 := hb.size; clear hb; have lt41 := hr38.lt
  refine ⟨_, rfl, ?_⟩
  refine pT (.tuple #[.agg #[.slice (some ⟨B36, 0, none⟩) 24 24], .int .i64 0]) ?_; refine pT (.agg #[.slice (some ⟨B36, 0, none⟩) 24 24]) ?_; refine pT (.int .i64 0) ?_
  refine pS (sn_new (us := #[.slice none 0 0]) (t := 31) (by kernel_rfl) ?_)
  intro O42 X43 hzO42 hyO42 hb hbx; have bO42_0 := bx1 hbx; clear hbx
  replace hE := hE.trans hb; replace bO1_t21 := BoxAt.ext hb bO1_t21; replace bO1_t22 := BoxAt.ext hb bO1_t22; replace bO1_t23 := BoxAt.ext hb bO1_t23; replace bO1_t24 := BoxAt.ext hb bO1_t24; replace bO1_t25 := BoxAt.ext hb bO1_t25; replace bO1_t26 := BoxAt.ext hb bO1_t26; replace bO1_t27 := BoxAt.ext hb bO1_t27; replace bO5_t28 := BoxAt.ext hb bO5_t28; replace bO5_t29 := BoxAt.ext hb bO5_t29; replace bO9_t30 := BoxAt.ext hb bO9_t30; replace bO9_t31 := BoxAt.ext hb bO9_t31; replace hm9 := hm9.ext hb; replace hr38 := hr38.ext hb; have hs44 := hb.size; clear hb; have lt45 := bO42_0.lt
  refine pP (sn_set (O := O42) (j := 0) (v := .slice (some ⟨B36, 0, none⟩) 24 24) (ex_store (p := .pointer (some ⟨O42, 0, none⟩)) (v := .agg #[.slice (some ⟨B36, 0, none⟩) 24 24]) rfl (by kernel_rfl) (by kernel_rfl) (st31 bO42_0.1 bO42_0.2)) bO42_0 ?_)
  intro X46 ho hv0 hk; replace hE := ho.ext hE (T (T hs3 (T hs7 (T hs11 (T hs14 (T hs18 (T hs33 hs40)))))) (Nat.le_of_eq hzO42))
  have q9 := fun (j : Nat) (v : Value) (h : BoxAt _ O1 j v) => ho.box (Nat.ne_of_gt (Nat.lt_of_lt_of_le lt4 (T (T hs7 (T hs11 (T hs14 (T hs18 (T hs33 hs40))))) (Nat.le_of_eq hzO42)))) h
  replace bO1_t21 := q9 _ _ bO1_t21; replace bO1_t22 := q9 _ _ bO1_t22; replace bO1_t23 := q9 _ _ bO1_t23; replace bO1_t24 := q9 _ _ bO1_t24; replace bO1_t25 := q9 _ _ bO1_t25; replace bO1_t26 := q9 _ _ bO1_t26; replace bO1_t27 := q9 _ _ bO1_t27; clear q9
  have q9 := fun (j : Nat) (v : Value) (h : BoxAt _ O5 j v) => ho.box (Nat.ne_of_gt (Nat.lt_of_lt_of_le lt8 (T (T hs11 (T hs14 (T hs18 (T hs33 hs40)))) (Nat.le_of_eq hzO42)))) h
  replace bO5_t28 := q9 _ _ bO5_t28; replace bO5_t29 := q9 _ _ bO5_t29; clear q9
  have q9 := fun (j : Nat) (v : Value) (h : BoxAt _ O9 j v) => ho.box (Nat.ne_of_gt (Nat.lt_of_lt_of_le lt12 (T (T hs14 (T hs18 (T hs33 hs40))) (Nat.le_of_eq hzO42)))) h
  replace bO9_t30 := q9 _ _ bO9_t30; replace bO9_t31 := q9 _ _ bO9_t31; clear q9; replace hm9 := ho.arr (Nat.ne_of_gt (Nat.lt_of_lt_of_le lt19 (T (T hs33 hs40) (Nat.le_of_eq hzO42)))) hm9; replace hr38 := ho.rows (Nat.ne_of_gt (Nat.lt_of_lt_of_le lt41 (Nat.le_of_eq hzO42))) hr38; have hs47 : X43.heap.size ≤ X46.heap.size := Nat.le_of_eq ho.size.symm; clear ho hk bO42_0; have bO42_0 := hv0; clear hv0; refine pT (.int .i64 0) ?_; refine pl_nil ?_; refine qw_then ?_; refine cC8 2 3 4 6 8 9 10 11 (fun L => ?_); refine cw_seq ?_; refine cw_seq ?_; refine cw_plain ?_; refine pT (.int .i64 0) ?_; refine pT (.bool false) ?_; refine pl_nil ?_; refine qw_then ?_
  refine cw_f (by kernel_rfl) ?_
  refine cw_skip ?_
  refine qw_then ?_; refine cw_seq ?_; refine cw_plain ?_; refine pT (.int .i64 0) ?_; refine pl_nil ?_; refine qw_then ?_
  refine cw_block ?_
  have hX48 : Ext X46 X46 := Ext.refl _
  have bO1_tt49 := bO1_t21
  have bO1_tt50 := bO1_t22
  have bO1_tt51 := bO1_t23
  have bO1_tt52 := bO1_t24
  have bO1_tt53 := bO1_t25
  have bO1_tt54 := bO1_t26
  have bO1_tt55 := bO1_t27
  have bO5_tt56 := bO5_t28
  have bO5_tt57 := bO5_t29
  have bO9_tt58 := bO9_t30
  have bO9_tt59 := bO9_t31
  have hmt60 := hm9
  have hrt61 := hr38
  have bO42_t62 := bO42_0
  refine cw_loop [2, 3, 4, 6, 8, 9, 10, 12] (fun ws' wr m => ∃ y : Nat, ws' = [(2, .int .i64 lk), (3, .pointer (some ⟨O1, 0, none⟩)), (4, .pointer (some ⟨O5, 0, none⟩)), (6, .pointer (some ⟨O9, 0, none⟩)), (8, .pointer (some ⟨O15, 0, none⟩)), (9, .int .i64 (-o.sl + ((j : Nat) : Int) : Int)), (10, .pointer (some ⟨O42, 0, none⟩)), (12, .int .i64 (((y : Nat) : Int) : Int))] ∧ m = 24 - y ∧ X46.heap.size ≤ wr.heap.size ∧ Ext w wr ∧ BoxAt wr O1 0 (.int .i64 o.p) ∧ BoxAt wr O1 1 (.int .i64 o.f) ∧ BoxAt wr O1 2 (.int .i64 o.lo) ∧ BoxAt wr O1 3 (.int .i64 o.hi) ∧ BoxAt wr O1 4 (.int .i64 o.nd) ∧ BoxAt wr O1 5 (.int .i64 o.tn) ∧ BoxAt wr O1 6 (.int .i64 o.sl) ∧ BoxAt wr O5 0 (.int .i64 s.1) ∧ BoxAt wr O5 1 (.int .i64 s.2) ∧ BoxAt wr O9 0 (.slice none 0 0) ∧ BoxAt wr O9 1 (.slice none 0 0) ∧ RowsAt wr B36 (Swath.areaJ o s lk j) ∧ BoxAt wr O42 0 (.slice (some ⟨B36, 0, none⟩) 24 24) ∧ ArrAt wr O15 1152 (Swath.midC (Swath.areaJ o s lk) j (y * 48)) ∧ y ≤ 24) (ws0 := [(2, .int .i64 lk), (3, .pointer (some ⟨O1, 0, none⟩)), (4, .pointer (some ⟨O5, 0, none⟩)), (6, .pointer (some ⟨O9, 0, none⟩)), (8, .pointer (some ⟨O15, 0, none⟩)), (9, .int .i64 (-o.sl + ((j : Nat) : Int) : Int)), (10, .pointer (some ⟨O42, 0, none⟩)), (12, .int .i64 0)]) (by kernel_rfl) _ ⟨0, rfl, rfl, Nat.le_refl _, hE, bO1_tt49, bO1_tt50, bO1_tt51, bO1_tt52, bO1_tt53, bO1_tt54, bO1_tt55, bO5_tt56, bO5_tt57, bO9_tt58, bO9_tt59, hrt61, bO42_t62, (hmt60.congr fun k _ => Swath.mid_0), Nat.zero_le _⟩ ?_
  clear bO1_tt49 bO1_tt50 bO1_tt51 bO1_tt52 bO1_tt53 bO1_tt54 bO1_tt55 bO5_tt56 bO5_tt57 bO9_tt58 bO9_tt59 hmt60 hrt61 bO42_t62 hE
  rintro m65 L ws w64 ⟨y, rfl, rfl, hs63, hE, bO1_tt49, bO1_tt50, bO1_tt51, bO1_tt52, bO1_tt53, bO1_tt54, bO1_tt55, bO5_tt56, bO5_tt57, bO9_tt58, bO9_tt59, hrt61, bO42_t62, hm8, hy⟩
  by_cases hlt : y < 24
  ·
   have hlty := hlt; clear hlt; refine cw_seq ?_; refine cw_seq ?_; refine cw_plain ?_; refine pT (.int .i64 (((y : Nat) : Int) : Int)) ?_
   refine pU (.bool true) (ev_dec (show _ = Result.ok (Next.value (Value.bool (decide ((((y : Nat) : Int) : Int) < (24 : Int))))) _ from by kernel_rfl) (by omega)) ?_
   refine pl_nil ?_; refine qw_then ?_
   refine cw_t (by kernel_rfl) ?_
   refine cw_skip ?_
   refine qw_then ?_; refine cw_seq ?_
   refine cw_block ?_
   refine cw_seq ?_; refine cw_plain ?_; refine pT (.int .i64 0) ?_; refine pl_nil ?_; refine qw_then ?_
   refine cw_block ?_
   have hX66 : Ext w64 w64 := Ext.refl _
   have bO1_ttt67 := bO1_tt49
   have bO1_ttt68 := bO1_tt50
   have bO1_ttt69 := bO1_tt51
   have bO1_ttt70 := bO1_tt52
   have bO1_ttt71 := bO1_tt53
   have bO1_ttt72 := bO1_tt54
   have bO1_ttt73 := bO1_tt55
   have bO5_ttt74 := bO5_tt56
   have bO5_ttt75 := bO5_tt57
   have bO9_ttt76 := bO9_tt58
   have bO9_ttt77 := bO9_tt59
   have hrtt78 := hrt61
   have bO42_tt79 := bO42_t62
   have hmt80 := hm8
   refine cw_loop [2, 3, 4, 6, 8, 9, 10, 12, 13] (fun ws' wr m => ∃ x : Nat, ws' = [(2, .int .i64 lk), (3, .pointer (some ⟨O1, 0, none⟩)), (4, .pointer (some ⟨O5, 0, none⟩)), (6, .pointer (some ⟨O9, 0, none⟩)), (8, .pointer (some ⟨O15, 0, none⟩)), (9, .int .i64 (-o.sl + ((j : Nat) : Int) : Int)), (10, .pointer (some ⟨O42, 0, none⟩)), (12, .int .i64 (((y : Nat) : Int) : Int)), (13, .int .i64 (((x : Nat) : Int) : Int))] ∧ m = 48 - x ∧ w64.heap.size ≤ wr.heap.size ∧ Ext w wr ∧ BoxAt wr O1 0 (.int .i64 o.p) ∧ BoxAt wr O1 1 (.int .i64 o.f) ∧ BoxAt wr O1 2 (.int .i64 o.lo) ∧ BoxAt wr O1 3 (.int .i64 o.hi) ∧ BoxAt wr O1 4 (.int .i64 o.nd) ∧ BoxAt wr O1 5 (.int .i64 o.tn) ∧ BoxAt wr O1 6 (.int .i64 o.sl) ∧ BoxAt wr O5 0 (.int .i64 s.1) ∧ BoxAt wr O5 1 (.int .i64 s.2) ∧ BoxAt wr O9 0 (.slice none 0 0) ∧ BoxAt wr O9 1 (.slice none 0 0) ∧ RowsAt wr B36 (Swath.areaJ o s lk j) ∧ BoxAt wr O42 0 (.slice (some ⟨B36, 0, none⟩) 24 24) ∧ ArrAt wr O15 1152 (Swath.midC (Swath.areaJ o s lk) j (y * 48 + x)) ∧ x ≤ 48) (ws0 := [(2, .int .i64 lk), (3, .pointer (some ⟨O1, 0, none⟩)), (4, .pointer (some ⟨O5, 0, none⟩)), (6, .pointer (some ⟨O9, 0, none⟩)), (8, .pointer (some ⟨O15, 0, none⟩)), (9, .int .i64 (-o.sl + ((j : Nat) : Int) : Int)), (10, .pointer (some ⟨O42, 0, none⟩)), (12, .int .i64 (((y : Nat) : Int) : Int)), (13, .int .i64 0)]) (by kernel_rfl) _ ⟨0, rfl, rfl, Nat.le_refl _, hE, bO1_ttt67, bO1_ttt68, bO1_ttt69, bO1_ttt70, bO1_ttt71, bO1_ttt72, bO1_ttt73, bO5_ttt74, bO5_ttt75, bO9_ttt76, bO9_ttt77, hrtt78, bO42_tt79, hmt80, Nat.zero_le _⟩ ?_
   clear bO1_ttt67 bO1_ttt68 bO1_ttt69 bO1_ttt70 bO1_ttt71 bO1_ttt72 bO1_ttt73 bO5_ttt74 bO5_ttt75 bO9_ttt76 bO9_ttt77 hrtt78 bO42_tt79 hmt80 hE
   rintro m83 L ws w82 ⟨x, rfl, rfl, hs81, hE, bO1_ttt67, bO1_ttt68, bO1_ttt69, bO1_ttt70, bO1_ttt71, bO1_ttt72, bO1_ttt73, bO5_ttt74, bO5_ttt75, bO9_ttt76, bO9_ttt77, hrtt78, bO42_tt79, hm7, hx⟩
   by_cases hlt : x < 48
   ·
    have hltx := hlt; clear hlt; refine cw_seq ?_; refine cw_seq ?_; refine cw_plain ?_; refine pT (.int .i64 (((x : Nat) : Int) : Int)) ?_
    refine pU (.bool true) (ev_dec (show _ = Result.ok (Next.value (Value.bool (decide ((((x : Nat) : Int) : Int) < (48 : Int))))) _ from by kernel_rfl) (by omega)) ?_
    refine pl_nil ?_; refine qw_then ?_
    refine cw_t (by kernel_rfl) ?_
    refine cw_skip ?_
    refine qw_then ?_; refine cw_seq ?_
    refine cw_block ?_
    have hvj := Swath.areaJ_valid hok s lk j
    have hva9 := RowsAt.va hrtt78 hvj
    have hmb := Swath.mid_bd (Swath.areaJ o s lk) j (y * 48 + x) (y * 48 + x)
    have hbb := Swath.bitI_bd (Swath.areaJ o s lk j) (y * 48 + x)
    have hrl := Globe.rowN_lt hvj y
    refine cw_draw [(some 51, [12], []), (some 52, [13], []), (some 53, [12], []), (some 54, [13], []), (some 55, [8, 53], [2]), (some 56, [55, 54], [4, 3]), (some 57, [56], [5]), (some 58, [10], []), (some 59, [58], [7]), (some 60, [12], []), (some 61, [59, 60], [8, 9]), (some 62, [61], [10]), (some 63, [13], []), (some 64, [62, 63], [11, 12]), (some 65, [64], [13]), (some 66, [57, 65], [6, 14]), (some 67, [8, 51], [0]), (some 68, [67, 52], [16, 1, 0, 1, 2, 3, 4, 5, 6, 7, 8, 9, 10, 11, 12, 13, 14, 15]), (none, [68, 66], [17, 15, 0, 1, 2, 3, 4, 5, 6, 7, 8, 9, 10, 11, 12, 13, 14, 15])] (fun w' => w'.cell? ⟨O42, 0, none⟩ = some (.slice (some ⟨B36, 0, none⟩) 24 24) ∧ w'.cell? ⟨B36, y, none⟩ = some (.int .i64 (((Globe.rowN (Swath.areaJ o s lk j) y : Nat) : Int) : Int))) (by kernel_rfl) (by kernel_rfl) (by kernel_rfl) (by kernel_rfl) ((calm_block (calm_then (calm_then (calm_block (calm_block (calm_then (calm_then (calm_block (calm_block (calm_then (calm_then (calm_block (calm_then calm_body)))))))))))))) (⟨bO42_tt79.1, hva9.cell0 (y := y) (by omega)⟩) (fun ops Q X84 hb hL hR hK => ?_)
    replace hE := hE.trans hb; replace bO1_ttt67 := BoxAt.ext hb bO1_ttt67; replace bO1_ttt68 := BoxAt.ext hb bO1_ttt68; replace bO1_ttt69 := BoxAt.ext hb bO1_ttt69; replace bO1_ttt70 := BoxAt.ext hb bO1_ttt70; replace bO1_ttt71 := BoxAt.ext hb bO1_ttt71; replace bO1_ttt72 := BoxAt.ext hb bO1_ttt72; replace bO1_ttt73 := BoxAt.ext hb bO1_ttt73; replace bO5_ttt74 := BoxAt.ext hb bO5_ttt74; replace bO5_ttt75 := BoxAt.ext hb bO5_ttt75; replace bO9_ttt76 := BoxAt.ext hb bO9_ttt76; replace bO9_ttt77 := BoxAt.ext hb bO9_ttt77; replace hrtt78 := hrtt78.ext hb; replace bO42_tt79 := BoxAt.ext hb bO42_tt79; replace hm7 := hm7.ext hb; replace hva9 := hva9.ext hb; have hs85 := hb.size; clear hb
    have hS86 := And.intro (bO42_tt79.1) (hva9.cell0 (y := y) (by omega))
    refine wT 0 (.int .i64 (((y : Nat) : Int) : Int)) hR (fun w _ => by kernel_rfl) (hS86) ?_
    refine wT 1 (.int .i64 (((x : Nat) : Int) : Int)) hR (fun w _ => by kernel_rfl) (hS86) ?_
    refine wT 2 (.int .i64 (((y : Nat) : Int) : Int)) hR (fun w _ => by kernel_rfl) (hS86) ?_
    refine wT 3 (.int .i64 (((x : Nat) : Int) : Int)) hR (fun w _ => by kernel_rfl) (hS86) ?_
    refine wT 4 (.pointer (some ⟨O15, y * 48, none⟩)) hR (fun w _ => ex_index (p := .pointer (some ⟨O15, 0, none⟩)) (i := .int .i64 ((y : Nat) : Int)) rfl (by kernel_rfl) (by kernel_rfl) (ia80 (k := y) (by omega))) (hS86) ?_
    refine wT 5 (.pointer (some ⟨O15, y * 48 + x, none⟩)) hR (fun w _ => ex_index (p := .pointer (some ⟨O15, y * 48, none⟩)) (i := .int .i64 ((x : Nat) : Int)) rfl (by kernel_rfl) (by kernel_rfl) (ia79 (k := x) (by omega))) (hS86) ?_
    refine wT 7 (.pointer (some ⟨O42, 0, none⟩)) hR (fun w _ => by kernel_rfl) (hS86) ?_
    refine wT 8 (.slice (some ⟨B36, 0, none⟩) 24 24) hR (fun w hS => ex_load rfl (by kernel_rfl) (ld29 (hS.1))) (hS86) ?_
    refine wT 9 (.int .i64 (((y : Nat) : Int) : Int)) hR (fun w _ => by kernel_rfl) (hS86) ?_
    refine wT 10 (.pointer (some ⟨B36, y, none⟩)) hR (fun w _ => ex_index (p := .slice (some ⟨B36, 0, none⟩) 24 24) (i := .int .i64 ((y : Nat) : Int)) rfl (by kernel_rfl) (by kernel_rfl) (ix29z (k := y) (by omega))) (hS86) ?_
    refine wT 11 (.int .i64 (((Globe.rowN (Swath.areaJ o s lk j) y : Nat) : Int) : Int)) hR (fun w hS => ex_load rfl (by kernel_rfl) (ld3 (hS.2))) (hS86) ?_
    refine wT 12 (.int .i64 (((x : Nat) : Int) : Int)) hR (fun w _ => by kernel_rfl) (hS86) ?_
    refine wT 13 (.int .i64 ((((Globe.rowN (Swath.areaJ o s lk j) y) / 2 ^ x : Nat) : Int) : Int)) hR (fun w _ => ex_bin rfl (by kernel_rfl) (by kernel_rfl) (bin_shr (by omega))) (hS86) ?_
    refine wT 14 (.int .i64 (Swath.bitI (Swath.areaJ o s lk j) (y * 48 + x) : Int)) hR (fun w _ => ev_int (ex_bin (a := ((Globe.rowN (Swath.areaJ o s lk j) y / 2 ^ x : Nat) : Int)) (b := 2) rfl (by kernel_rfl) (by kernel_rfl) (bin_tmod (by omega))) (Swath.bitI_eq _ _ hltx)) (hS86) ?_
    refine wT 16 (.pointer (some ⟨O15, y * 48, none⟩)) hR (fun w _ => ex_index (p := .pointer (some ⟨O15, 0, none⟩)) (i := .int .i64 ((y : Nat) : Int)) rfl (by kernel_rfl) (by kernel_rfl) (ia80 (k := y) (by omega))) (hS86) ?_
    refine wS 6 hR (sn_eff (v := .int .i64 ((Swath.midC (Swath.areaJ o s lk) j (y * 48 + x)) (y * 48 + x) : Int)) (w' := X84) (ex_load rfl (by kernel_rfl) (ld3 ((hm7.at (k := y * 48 + x) (by omega)).1))) ⟨hS86, ?_⟩)
    refine wT 15 (.int .i64 (((Swath.midC (Swath.areaJ o s lk) j (y * 48 + x)) (y * 48 + x)) + (Swath.bitI (Swath.areaJ o s lk j) (y * 48 + x)) : Int)) hR (fun w _ => ev_wrap (by kernel_rfl) (by omega) (by omega)) (hS86) ?_
    refine wT 17 (.pointer (some ⟨O15, y * 48 + x, none⟩)) hR (fun w _ => ex_index (p := .pointer (some ⟨O15, y * 48, none⟩)) (i := .int .i64 ((x : Nat) : Int)) rfl (by kernel_rfl) (by kernel_rfl) (ia79 (k := x) (by omega))) (hS86) ?_
    have hka := hm7.at (k := y * 48 + x) (by omega)
    refine wS 18 hR (sn_set (O := O15) (j := y * 48 + x) (v := .int .i64 (((Swath.midC (Swath.areaJ o s lk) j (y * 48 + x)) (y * 48 + x)) + (Swath.bitI (Swath.areaJ o s lk j) (y * 48 + x)) : Int)) (ex_store (p := .pointer (some ⟨O15, y * 48 + x, none⟩)) (v := .int .i64 (((Swath.midC (Swath.areaJ o s lk) j (y * 48 + x)) (y * 48 + x)) + (Swath.bitI (Swath.areaJ o s lk j) (y * 48 + x)) : Int)) rfl (by kernel_rfl) (by kernel_rfl) (st3 hka.1 hka.2)) hka ?_)
    intro X87 ho hv0 hk; replace hE := ho.ext hE (T (T hs3 (T hs7 (T hs11 hs14))) (Nat.le_of_eq hzO15))
    have q9 := fun (j : Nat) (v : Value) (h : BoxAt _ O1 j v) => ho.box (Nat.ne_of_gt (Nat.lt_of_lt_of_le lt4 (T (T hs7 (T hs11 hs14)) (Nat.le_of_eq hzO15)))) h
    replace bO1_ttt67 := q9 _ _ bO1_ttt67; replace bO1_ttt68 := q9 _ _ bO1_ttt68; replace bO1_ttt69 := q9 _ _ bO1_ttt69; replace bO1_ttt70 := q9 _ _ bO1_ttt70; replace bO1_ttt71 := q9 _ _ bO1_ttt71; replace bO1_ttt72 := q9 _ _ bO1_ttt72; replace bO1_ttt73 := q9 _ _ bO1_ttt73; clear q9
    have q9 := fun (j : Nat) (v : Value) (h : BoxAt _ O5 j v) => ho.box (Nat.ne_of_gt (Nat.lt_of_lt_of_le lt8 (T (T hs11 hs14) (Nat.le_of_eq hzO15)))) h
    replace bO5_ttt74 := q9 _ _ bO5_ttt74; replace bO5_ttt75 := q9 _ _ bO5_ttt75; clear q9
    have q9 := fun (j : Nat) (v : Value) (h : BoxAt _ O9 j v) => ho.box (Nat.ne_of_gt (Nat.lt_of_lt_of_le lt12 (T hs14 (Nat.le_of_eq hzO15)))) h
    replace bO9_ttt76 := q9 _ _ bO9_ttt76; replace bO9_ttt77 := q9 _ _ bO9_ttt77; clear q9; replace hrtt78 := ho.rows (Nat.ne_of_lt (Nat.lt_of_lt_of_le lt19 (T hs33 hn37))) hrtt78; replace bO42_tt79 := ho.box (Nat.ne_of_lt (Nat.lt_of_lt_of_le lt19 (T (T hs33 hs40) (Nat.le_of_eq hzO42)))) bO42_tt79; replace hva9 := ho.va (Nat.ne_of_lt (Nat.lt_of_lt_of_le lt19 (T hs33 hn37))) hva9; have hs88 : X84.heap.size ≤ X87.heap.size := Nat.le_of_eq ho.size.symm; replace hm7 := hm7.upd hv0 hk; clear ho hka hv0 hk
    have hS89 := And.intro (bO42_tt79.1) (hva9.cell0 (y := y) (by omega))
    refine ⟨hS89, ?_⟩
    refine wd_end hL hR hK (by kernel_rfl) ?_
    refine qw_block ?_
    refine qw_then ?_; refine cC9 2 3 4 6 8 9 10 12 13 (fun L => ?_); refine cw_plain ?_; refine pT (.int .i64 (((x : Nat) : Int) : Int)) ?_
    refine pU (.int .i64 (((x + 1 : Nat) : Int) : Int)) (ev_wrap (by kernel_rfl) (by omega) (by omega)) ?_
    refine pT (.int .i64 (((x + 1 : Nat) : Int) : Int)) ?_; refine pl_nil ?_
    refine qw_round [2, 3, 4, 6, 8, 9, 10, 12, 13] (ws' := [(2, .int .i64 lk), (3, .pointer (some ⟨O1, 0, none⟩)), (4, .pointer (some ⟨O5, 0, none⟩)), (6, .pointer (some ⟨O9, 0, none⟩)), (8, .pointer (some ⟨O15, 0, none⟩)), (9, .int .i64 (-o.sl + ((j : Nat) : Int) : Int)), (10, .pointer (some ⟨O42, 0, none⟩)), (12, .int .i64 (((y : Nat) : Int) : Int)), (13, .int .i64 (((x + 1 : Nat) : Int) : Int))]) (by kernel_rfl) _ ?_ ⟨(x + 1), rfl, rfl, (T hs81 (T hs85 hs88)), hE, bO1_ttt67, bO1_ttt68, bO1_ttt69, bO1_ttt70, bO1_ttt71, bO1_ttt72, bO1_ttt73, bO5_ttt74, bO5_ttt75, bO9_ttt76, bO9_ttt77, hrtt78, bO42_tt79, (ArrAt.next hm7), by omega⟩
    omega
   ·
    have hxn : x = 48 := by omega
    refine cw_seq ?_; refine cw_seq ?_; refine cw_plain ?_; refine pT (.int .i64 (((x : Nat) : Int) : Int)) ?_
    refine pU (.bool false) (ev_ndec (show _ = Result.ok (Next.value (Value.bool (decide ((((x : Nat) : Int) : Int) < (48 : Int))))) _ from by kernel_rfl) (by omega)) ?_
    refine pl_nil ?_; refine qw_then ?_
    refine cw_f (by kernel_rfl) ?_
    refine cw_exit ?_
    refine qw_then_exit ?_
    refine qw_then_exit ?_
    refine qw_block_out ?_
    refine qw_block ?_
    refine qw_then ?_; refine cw_plain ?_; refine pT (.int .i64 (((y : Nat) : Int) : Int)) ?_
    refine pU (.int .i64 (((y + 1 : Nat) : Int) : Int)) (ev_wrap (by kernel_rfl) (by omega) (by omega)) ?_
    refine pT (.int .i64 (((y + 1 : Nat) : Int) : Int)) ?_; refine pl_nil ?_
    refine qw_round [2, 3, 4, 6, 8, 9, 10, 12] (ws' := [(2, .int .i64 lk), (3, .pointer (some ⟨O1, 0, none⟩)), (4, .pointer (some ⟨O5, 0, none⟩)), (6, .pointer (some ⟨O9, 0, none⟩)), (8, .pointer (some ⟨O15, 0, none⟩)), (9, .int .i64 (-o.sl + ((j : Nat) : Int) : Int)), (10, .pointer (some ⟨O42, 0, none⟩)), (12, .int .i64 (((y + 1 : Nat) : Int) : Int))]) (by kernel_rfl) _ ?_ ⟨(y + 1), rfl, rfl, (T hs63 hs81), hE, bO1_ttt67, bO1_ttt68, bO1_ttt69, bO1_ttt70, bO1_ttt71, bO1_ttt72, bO1_ttt73, bO5_ttt74, bO5_ttt75, bO9_ttt76, bO9_ttt77, hrtt78, bO42_tt79, (by rw [show (y + 1) * 48 = y * 48 + x by omega]; exact hm7), by omega⟩
    omega
  ·
   have hyn : y = 24 := by omega
   refine cw_seq ?_; refine cw_seq ?_; refine cw_plain ?_; refine pT (.int .i64 (((y : Nat) : Int) : Int)) ?_
   refine pU (.bool false) (ev_ndec (show _ = Result.ok (Next.value (Value.bool (decide ((((y : Nat) : Int) : Int) < (24 : Int))))) _ from by kernel_rfl) (by omega)) ?_
   refine pl_nil ?_; refine qw_then ?_
   refine cw_f (by kernel_rfl) ?_
   refine cw_exit ?_
   refine qw_then_exit ?_
   refine qw_then_exit ?_
   refine qw_block_out ?_
   refine qw_block ?_
   refine qw_then ?_; refine cw_plain ?_; refine pT (.int .i64 (-o.sl + ((j : Nat) : Int) : Int)) ?_
   refine pU (.int .i64 (-o.sl + ((j + 1 : Nat) : Int) : Int)) (ev_int (ev_wrap (a := -o.sl + ((j : Nat) : Int) + 1) (by kernel_rfl) (by omega) (by omega)) (by omega)) ?_
   refine pT (.int .i64 (-o.sl + ((j + 1 : Nat) : Int) : Int)) ?_; refine pl_nil ?_
   refine qw_round [2, 3, 4, 6, 8, 9] (ws' := [(2, .int .i64 lk), (3, .pointer (some ⟨O1, 0, none⟩)), (4, .pointer (some ⟨O5, 0, none⟩)), (6, .pointer (some ⟨O9, 0, none⟩)), (8, .pointer (some ⟨O15, 0, none⟩)), (9, .int .i64 (-o.sl + ((j + 1 : Nat) : Int) : Int))]) (by kernel_rfl) _ ?_ ⟨(j + 1), rfl, rfl, (T hs33 (T hs40 (T hs44 (T hs47 hs63)))), hE, bO1_tt49, bO1_tt50, bO1_tt51, bO1_tt52, bO1_tt53, bO1_tt54, bO1_tt55, bO5_tt56, bO5_tt57, bO9_tt58, bO9_tt59, (hm8.congr fun k hk => Swath.mid_all (by omega)), by omega⟩
   omega
 ·
  have hjn : j = Swath.lates o := by omega
  refine cw_seq ?_; refine cw_seq ?_; refine cw_plain ?_; refine pT (.int .i64 (-o.sl + ((j : Nat) : Int) : Int)) ?_; refine pT (.pointer (some ⟨O1, 6, none⟩)) ?_
  refine pU (.int .i64 o.sl) (ex_load rfl (by kernel_rfl) (ld3 (bO1_t27.1))) ?_
  refine pU (.bool false) (ev_ndec (show _ = Result.ok (Next.value (Value.bool (decide ((-o.sl + ((j : Nat) : Int) : Int) ≤ (o.sl : Int))))) _ from by kernel_rfl) (by omega)) ?_
  refine pl_nil ?_; refine qw_then ?_
  refine cw_f (by kernel_rfl) ?_
  refine cw_exit ?_
  refine qw_then_exit ?_
  refine qw_then_exit ?_
  refine qw_block_out ?_
  refine qw_then ?_; refine cw_seq ?_
  rw [hjn] at hm9
  refine cw_plain ?_
  refine pS (sn_call (f := 38) (args := #[]) (by kernel_rfl) ((rEmpty_c _).mono ?_))
  rintro e w93 ⟨B90, rfl, hn91, hr92, hb⟩
  replace hE := hE.trans hb; replace bO1_t21 := BoxAt.ext hb bO1_t21; replace bO1_t22 := BoxAt.ext hb bO1_t22; replace bO1_t23 := BoxAt.ext hb bO1_t23; replace bO1_t24 := BoxAt.ext hb bO1_t24; replace bO1_t25 := BoxAt.ext hb bO1_t25; replace bO1_t26 := BoxAt.ext hb bO1_t26; replace bO1_t27 := BoxAt.ext hb bO1_t27; replace bO5_t28 := BoxAt.ext hb bO5_t28; replace bO5_t29 := BoxAt.ext hb bO5_t29; replace bO9_t30 := BoxAt.ext hb bO9_t30; replace bO9_t31 := BoxAt.ext hb bO9_t31; replace hm9 := hm9.ext hb; have hs94 := hb.size; clear hb; have lt95 := hr92.lt
  refine ⟨_, rfl, ?_⟩
  refine pS (sn_call (f := 38) (args := #[]) (by kernel_rfl) ((rEmpty_c _).mono ?_))
  rintro e w99 ⟨B96, rfl, hn97, hr98, hb⟩
  replace hE := hE.trans hb; replace bO1_t21 := BoxAt.ext hb bO1_t21; replace bO1_t22 := BoxAt.ext hb bO1_t22; replace bO1_t23 := BoxAt.ext hb bO1_t23; replace bO1_t24 := BoxAt.ext hb bO1_t24; replace bO1_t25 := BoxAt.ext hb bO1_t25; replace bO1_t26 := BoxAt.ext hb bO1_t26; replace bO1_t27 := BoxAt.ext hb bO1_t27; replace bO5_t28 := BoxAt.ext hb bO5_t28; replace bO5_t29 := BoxAt.ext hb bO5_t29; replace bO9_t30 := BoxAt.ext hb bO9_t30; replace bO9_t31 := BoxAt.ext hb bO9_t31; replace hm9 := hm9.ext hb; replace hr92 := hr92.ext hb; have hs100 := hb.size; clear hb; have lt101 := hr98.lt
  refine ⟨_, rfl, ?_⟩
  refine pT (.agg #[.slice (some ⟨B90, 0, none⟩) 24 24, .slice (some ⟨B96, 0, none⟩) 24 24]) ?_
  refine pS (sn_new (us := #[.slice none 0 0, .slice none 0 0]) (t := 44) (by kernel_rfl) ?_)
  intro O102 X103 hzO102 hyO102 hb hbx; have ⟨bO102_0, bO102_1⟩ := bx2 hbx; clear hbx
  replace hE := hE.trans hb; replace bO1_t21 := BoxAt.ext hb bO1_t21; replace bO1_t22 := BoxAt.ext hb bO1_t22; replace bO1_t23 := BoxAt.ext hb bO1_t23; replace bO1_t24 := BoxAt.ext hb bO1_t24; replace bO1_t25 := BoxAt.ext hb bO1_t25; replace bO1_t26 := BoxAt.ext hb bO1_t26; replace bO1_t27 := BoxAt.ext hb bO1_t27; replace bO5_t28 := BoxAt.ext hb bO5_t28; replace bO5_t29 := BoxAt.ext hb bO5_t29; replace bO9_t30 := BoxAt.ext hb bO9_t30; replace bO9_t31 := BoxAt.ext hb bO9_t31; replace hm9 := hm9.ext hb; replace hr92 := hr92.ext hb; replace hr98 := hr98.ext hb; have hs104 := hb.size; clear hb; have lt105 := bO102_0.lt
  refine pP (sn_set2 (O := O102) (j := 0) (v := .slice (some ⟨B90, 0, none⟩) 24 24) (v' := .slice (some ⟨B96, 0, none⟩) 24 24) (ex_store (p := .pointer (some ⟨O102, 0, none⟩)) (v := .agg #[.slice (some ⟨B90, 0, none⟩) 24 24, .slice (some ⟨B96, 0, none⟩) 24 24]) rfl (by kernel_rfl) (by kernel_rfl) (st44 bO102_0.1 bO102_0.2 bO102_1.1 bO102_1.2)) bO102_0 bO102_1 ?_)
  intro X106 ho hv0 hv1 hk; replace hE := ho.ext hE (T (T hs3 (T hs7 (T hs11 (T hs14 (T hs18 (T hs33 (T hs94 hs100))))))) (Nat.le_of_eq hzO102))
  have q9 := fun (j : Nat) (v : Value) (h : BoxAt _ O1 j v) => ho.box (Nat.ne_of_gt (Nat.lt_of_lt_of_le lt4 (T (T hs7 (T hs11 (T hs14 (T hs18 (T hs33 (T hs94 hs100)))))) (Nat.le_of_eq hzO102)))) h
  replace bO1_t21 := q9 _ _ bO1_t21; replace bO1_t22 := q9 _ _ bO1_t22; replace bO1_t23 := q9 _ _ bO1_t23; replace bO1_t24 := q9 _ _ bO1_t24; replace bO1_t25 := q9 _ _ bO1_t25; replace bO1_t26 := q9 _ _ bO1_t26; replace bO1_t27 := q9 _ _ bO1_t27; clear q9
  have q9 := fun (j : Nat) (v : Value) (h : BoxAt _ O5 j v) => ho.box (Nat.ne_of_gt (Nat.lt_of_lt_of_le lt8 (T (T hs11 (T hs14 (T hs18 (T hs33 (T hs94 hs100))))) (Nat.le_of_eq hzO102)))) h
  replace bO5_t28 := q9 _ _ bO5_t28; replace bO5_t29 := q9 _ _ bO5_t29; clear q9
  have q9 := fun (j : Nat) (v : Value) (h : BoxAt _ O9 j v) => ho.box (Nat.ne_of_gt (Nat.lt_of_lt_of_le lt12 (T (T hs14 (T hs18 (T hs33 (T hs94 hs100)))) (Nat.le_of_eq hzO102)))) h
  replace bO9_t30 := q9 _ _ bO9_t30; replace bO9_t31 := q9 _ _ bO9_t31; clear q9; replace hm9 := ho.arr (Nat.ne_of_gt (Nat.lt_of_lt_of_le lt19 (T (T hs33 (T hs94 hs100)) (Nat.le_of_eq hzO102)))) hm9; replace hr92 := ho.rows (Nat.ne_of_gt (Nat.lt_of_lt_of_le lt95 (T hs100 (Nat.le_of_eq hzO102)))) hr92; replace hr98 := ho.rows (Nat.ne_of_gt (Nat.lt_of_lt_of_le lt101 (Nat.le_of_eq hzO102))) hr98; have hs107 : X103.heap.size ≤ X106.heap.size := Nat.le_of_eq ho.size.symm; clear ho hk bO102_0 bO102_1; have bO102_0 := hv0; clear hv0; have bO102_1 := hv1; clear hv1; refine pl_nil ?_; refine qw_then ?_; refine cw_seq ?_; refine cw_seq ?_; refine cw_plain ?_; refine pT (.int .i64 0) ?_; refine pl_nil ?_; refine qw_then ?_; refine cC5 3 6 8 14 15 (fun L => ?_)
  refine cw_block ?_
  have hX108 : Ext X106 X106 := Ext.refl _
  have bO1_tt109 := bO1_t21
  have bO1_tt110 := bO1_t22
  have bO1_tt111 := bO1_t23
  have bO1_tt112 := bO1_t24
  have bO1_tt113 := bO1_t25
  have bO1_tt114 := bO1_t26
  have bO1_tt115 := bO1_t27
  have bO5_tt116 := bO5_t28
  have bO5_tt117 := bO5_t29
  have bO9_tt118 := bO9_t30
  have bO9_tt119 := bO9_t31
  have hmt120 := hm9
  have hrt121 := hr92
  have hrt122 := hr98
  have bO102_t123 := bO102_0
  have bO102_t124 := bO102_1
  refine cw_loop [3, 6, 8, 14, 15] (fun ws' wr m => ∃ y : Nat, ws' = [(3, .pointer (some ⟨O1, 0, none⟩)), (6, .pointer (some ⟨O9, 0, none⟩)), (8, .pointer (some ⟨O15, 0, none⟩)), (14, .pointer (some ⟨O102, 0, none⟩)), (15, .int .i64 (((y : Nat) : Int) : Int))] ∧ m = 24 - y ∧ X106.heap.size ≤ wr.heap.size ∧ Ext w wr ∧ BoxAt wr O1 0 (.int .i64 o.p) ∧ BoxAt wr O1 1 (.int .i64 o.f) ∧ BoxAt wr O1 2 (.int .i64 o.lo) ∧ BoxAt wr O1 3 (.int .i64 o.hi) ∧ BoxAt wr O1 4 (.int .i64 o.nd) ∧ BoxAt wr O1 5 (.int .i64 o.tn) ∧ BoxAt wr O1 6 (.int .i64 o.sl) ∧ BoxAt wr O5 0 (.int .i64 s.1) ∧ BoxAt wr O5 1 (.int .i64 s.2) ∧ BoxAt wr O9 0 (.slice none 0 0) ∧ BoxAt wr O9 1 (.slice none 0 0) ∧ ArrAt wr O15 1152 (Swath.cnt (Swath.areaJ o s lk) (Swath.lates o)) ∧ BoxAt wr O102 0 (.slice (some ⟨B90, 0, none⟩) 24 24) ∧ BoxAt wr O102 1 (.slice (some ⟨B96, 0, none⟩) 24 24) ∧ RowsAt wr B90 (Swath.partS (Swath.bS o s lk) (y * 48)) ∧ RowsAt wr B96 (Swath.partS (Swath.bC o s lk) (y * 48)) ∧ y ≤ 24) (ws0 := [(3, .pointer (some ⟨O1, 0, none⟩)), (6, .pointer (some ⟨O9, 0, none⟩)), (8, .pointer (some ⟨O15, 0, none⟩)), (14, .pointer (some ⟨O102, 0, none⟩)), (15, .int .i64 0)]) (by kernel_rfl) _ ⟨0, rfl, rfl, Nat.le_refl _, hE, bO1_tt109, bO1_tt110, bO1_tt111, bO1_tt112, bO1_tt113, bO1_tt114, bO1_tt115, bO5_tt116, bO5_tt117, bO9_tt118, bO9_tt119, hmt120, bO102_t123, bO102_t124, (by rw [Nat.zero_mul]; exact hrt121), (by rw [Nat.zero_mul]; exact hrt122), Nat.zero_le _⟩ ?_
  clear bO1_tt109 bO1_tt110 bO1_tt111 bO1_tt112 bO1_tt113 bO1_tt114 bO1_tt115 bO5_tt116 bO5_tt117 bO9_tt118 bO9_tt119 hmt120 hrt121 hrt122 bO102_t123 bO102_t124 hE
  rintro m127 L ws w126 ⟨y, rfl, rfl, hs125, hE, bO1_tt109, bO1_tt110, bO1_tt111, bO1_tt112, bO1_tt113, bO1_tt114, bO1_tt115, bO5_tt116, bO5_tt117, bO9_tt118, bO9_tt119, hmt120, bO102_t123, bO102_t124, hrS, hrC, hy⟩
  by_cases hlt : y < 24
  ·
   have hlty := hlt; clear hlt; refine cw_seq ?_; refine cw_seq ?_; refine cw_plain ?_; refine pT (.int .i64 (((y : Nat) : Int) : Int)) ?_
   refine pU (.bool true) (ev_dec (show _ = Result.ok (Next.value (Value.bool (decide ((((y : Nat) : Int) : Int) < (24 : Int))))) _ from by kernel_rfl) (by omega)) ?_
   refine pl_nil ?_; refine qw_then ?_
   refine cw_t (by kernel_rfl) ?_
   refine cw_skip ?_
   refine qw_then ?_; refine cw_seq ?_
   refine cw_block ?_
   refine cw_seq ?_; refine cw_plain ?_; refine pT (.int .i64 0) ?_; refine pl_nil ?_; refine qw_then ?_
   refine cw_block ?_
   have hX128 : Ext w126 w126 := Ext.refl _
   have bO1_ttt129 := bO1_tt109
   have bO1_ttt130 := bO1_tt110
   have bO1_ttt131 := bO1_tt111
   have bO1_ttt132 := bO1_tt112
   have bO1_ttt133 := bO1_tt113
   have bO1_ttt134 := bO1_tt114
   have bO1_ttt135 := bO1_tt115
   have bO5_ttt136 := bO5_tt116
   have bO5_ttt137 := bO5_tt117
   have bO9_ttt138 := bO9_tt118
   have bO9_ttt139 := bO9_tt119
   have hmtt140 := hmt120
   have bO102_tt141 := bO102_t123
   have bO102_tt142 := bO102_t124
   have hrSt143 := hrS
   have hrCt144 := hrC
   refine cw_loop [3, 6, 8, 14, 15, 16] (fun ws' wr m => ∃ x : Nat, ws' = [(3, .pointer (some ⟨O1, 0, none⟩)), (6, .pointer (some ⟨O9, 0, none⟩)), (8, .pointer (some ⟨O15, 0, none⟩)), (14, .pointer (some ⟨O102, 0, none⟩)), (15, .int .i64 (((y : Nat) : Int) : Int)), (16, .int .i64 (((x : Nat) : Int) : Int))] ∧ m = 48 - x ∧ w126.heap.size ≤ wr.heap.size ∧ Ext w wr ∧ BoxAt wr O1 0 (.int .i64 o.p) ∧ BoxAt wr O1 1 (.int .i64 o.f) ∧ BoxAt wr O1 2 (.int .i64 o.lo) ∧ BoxAt wr O1 3 (.int .i64 o.hi) ∧ BoxAt wr O1 4 (.int .i64 o.nd) ∧ BoxAt wr O1 5 (.int .i64 o.tn) ∧ BoxAt wr O1 6 (.int .i64 o.sl) ∧ BoxAt wr O5 0 (.int .i64 s.1) ∧ BoxAt wr O5 1 (.int .i64 s.2) ∧ BoxAt wr O9 0 (.slice none 0 0) ∧ BoxAt wr O9 1 (.slice none 0 0) ∧ ArrAt wr O15 1152 (Swath.cnt (Swath.areaJ o s lk) (Swath.lates o)) ∧ BoxAt wr O102 0 (.slice (some ⟨B90, 0, none⟩) 24 24) ∧ BoxAt wr O102 1 (.slice (some ⟨B96, 0, none⟩) 24 24) ∧ RowsAt wr B90 (Swath.partS (Swath.bS o s lk) (y * 48 + x)) ∧ RowsAt wr B96 (Swath.partS (Swath.bC o s lk) (y * 48 + x)) ∧ x ≤ 48) (ws0 := [(3, .pointer (some ⟨O1, 0, none⟩)), (6, .pointer (some ⟨O9, 0, none⟩)), (8, .pointer (some ⟨O15, 0, none⟩)), (14, .pointer (some ⟨O102, 0, none⟩)), (15, .int .i64 (((y : Nat) : Int) : Int)), (16, .int .i64 0)]) (by kernel_rfl) _ ⟨0, rfl, rfl, Nat.le_refl _, hE, bO1_ttt129, bO1_ttt130, bO1_ttt131, bO1_ttt132, bO1_ttt133, bO1_ttt134, bO1_ttt135, bO5_ttt136, bO5_ttt137, bO9_ttt138, bO9_ttt139, hmtt140, bO102_tt141, bO102_tt142, hrSt143, hrCt144, Nat.zero_le _⟩ ?_
   clear bO1_ttt129 bO1_ttt130 bO1_ttt131 bO1_ttt132 bO1_ttt133 bO1_ttt134 bO1_ttt135 bO5_ttt136 bO5_ttt137 bO9_ttt138 bO9_ttt139 hmtt140 bO102_tt141 bO102_tt142 hrSt143 hrCt144 hE
   rintro m147 L ws w146 ⟨x, rfl, rfl, hs145, hE, bO1_ttt129, bO1_ttt130, bO1_ttt131, bO1_ttt132, bO1_ttt133, bO1_ttt134, bO1_ttt135, bO5_ttt136, bO5_ttt137, bO9_ttt138, bO9_ttt139, hmtt140, bO102_tt141, bO102_tt142, hrS, hrC, hx⟩
   by_cases hlt : x < 48
   ·
    have hltx := hlt; clear hlt; refine cw_seq ?_; refine cw_seq ?_; refine cw_plain ?_; refine pT (.int .i64 (((x : Nat) : Int) : Int)) ?_
    refine pU (.bool true) (ev_dec (show _ = Result.ok (Next.value (Value.bool (decide ((((x : Nat) : Int) : Int) < (48 : Int))))) _ from by kernel_rfl) (by omega)) ?_
    refine pl_nil ?_; refine qw_then ?_
    refine cw_t (by kernel_rfl) ?_
    refine cw_skip ?_
    refine qw_then ?_; refine cw_seq ?_
    refine cw_block ?_
    refine cw_seq ?_; refine cw_seq ?_
    rcases Bool.eq_false_or_eq_true (Swath.bS o s lk (y * 48 + x)) with hbS | hbS
    ·
     have hcS : (Swath.cnt (Swath.areaJ o s lk) (Swath.lates o) (y * 48 + x) = ((Swath.lates o : Nat) : Int)) := of_decide_eq_true hbS
     have hvb148 := RowsAt.va hrS (Swath.part_valid _ _)
     have hrl149 := Globe.rowN_lt (Swath.part_valid (Swath.bS o s lk) (y * 48 + x)) y
     have hvb150 := RowsAt.va hrC (Swath.part_valid _ _)
     have hrl151 := Globe.rowN_lt (Swath.part_valid (Swath.bC o s lk) (y * 48 + x)) y
     have hpw152 : 2 ^ x < 2 ^ 48 := Nat.pow_lt_pow_right (by decide) hltx
     refine cw_draw [(some 80, [15], []), (some 81, [16], []), (some 82, [8, 80], [0]), (some 83, [82, 81], [2, 1]), (some 84, [83], [3]), (some 85, [3], []), (some 86, [85], [5]), (some 87, [86], [6]), (some 88, [87], [7]), (some 89, [84, 88], [4, 8])] (fun w' => w'.cell? ⟨O15, y * 48 + x, none⟩ = some (.int .i64 ((Swath.cnt (Swath.areaJ o s lk) (Swath.lates o)) (y * 48 + x) : Int)) ∧ w'.cell? ⟨O1, 6, none⟩ = some (.int .i64 o.sl)) (by kernel_rfl) (by kernel_rfl) (by kernel_rfl) (by kernel_rfl) ((calm_then (calm_then (calm_block (calm_then (calm_then (calm_block (calm_block (calm_then (calm_then (calm_block (calm_then calm_body)))))))))))) (⟨(hmtt140.at (k := y * 48 + x) (by omega)).1, bO1_ttt135.1⟩) (fun ops Q X153 hb hL hR hK => ?_)
     replace hE := hE.trans hb; replace bO1_ttt129 := BoxAt.ext hb bO1_ttt129; replace bO1_ttt130 := BoxAt.ext hb bO1_ttt130; replace bO1_ttt131 := BoxAt.ext hb bO1_ttt131; replace bO1_ttt132 := BoxAt.ext hb bO1_ttt132; replace bO1_ttt133 := BoxAt.ext hb bO1_ttt133; replace bO1_ttt134 := BoxAt.ext hb bO1_ttt134; replace bO1_ttt135 := BoxAt.ext hb bO1_ttt135; replace bO5_ttt136 := BoxAt.ext hb bO5_ttt136; replace bO5_ttt137 := BoxAt.ext hb bO5_ttt137; replace bO9_ttt138 := BoxAt.ext hb bO9_ttt138; replace bO9_ttt139 := BoxAt.ext hb bO9_ttt139; replace hmtt140 := hmtt140.ext hb; replace bO102_tt141 := BoxAt.ext hb bO102_tt141; replace bO102_tt142 := BoxAt.ext hb bO102_tt142; replace hrS := hrS.ext hb; replace hrC := hrC.ext hb; replace hvb148 := hvb148.ext hb; replace hvb150 := hvb150.ext hb; have hs154 := hb.size; clear hb
     have hS155 := And.intro ((hmtt140.at (k := y * 48 + x) (by omega)).1) (bO1_ttt135.1)
     refine wT 0 (.int .i64 (((y : Nat) : Int) : Int)) hR (fun w _ => by kernel_rfl) (hS155) ?_
     refine wT 1 (.int .i64 (((x : Nat) : Int) : Int)) hR (fun w _ => by kernel_rfl) (hS155) ?_
     refine wT 2 (.pointer (some ⟨O15, y * 48, none⟩)) hR (fun w _ => ex_index (p := .pointer (some ⟨O15, 0, none⟩)) (i := .int .i64 ((y : Nat) : Int)) rfl (by kernel_rfl) (by kernel_rfl) (ia80 (k := y) (by omega))) (hS155) ?_
     refine wT 3 (.pointer (some ⟨O15, y * 48 + x, none⟩)) hR (fun w _ => ex_index (p := .pointer (some ⟨O15, y * 48, none⟩)) (i := .int .i64 ((x : Nat) : Int)) rfl (by kernel_rfl) (by kernel_rfl) (ia79 (k := x) (by omega))) (hS155) ?_
     refine wT 4 (.int .i64 ((Swath.cnt (Swath.areaJ o s lk) (Swath.lates o)) (y * 48 + x) : Int)) hR (fun w hS => ex_load rfl (by kernel_rfl) (ld3 (hS.1))) (hS155) ?_
     refine wT 5 (.pointer (some ⟨O1, 6, none⟩)) hR (fun w _ => by kernel_rfl) (hS155) ?_
     refine wT 6 (.int .i64 o.sl) hR (fun w hS => ex_load rfl (by kernel_rfl) (ld3 (hS.2))) (hS155) ?_
     refine wT 7 (.int .i64 (2 * o.sl : Int)) hR (fun w _ => ev_wrap (by kernel_rfl) (by omega) (by omega)) (hS155) ?_
     refine wT 8 (.int .i64 ((2 * o.sl) + 1 : Int)) hR (fun w _ => ev_wrap (by kernel_rfl) (by omega) (by omega)) (hS155) ?_
     refine wT 9 (.bool true) hR (fun w _ => ev_eq (show _ = Result.ok (Next.value (Value.bool (((Swath.cnt (Swath.areaJ o s lk) (Swath.lates o)) (y * 48 + x) : Int) == ((2 * o.sl) + 1 : Int)))) _ from by kernel_rfl) (by omega)) (hS155) ?_
     refine wd_end hL hR hK (by kernel_rfl) ?_
     refine qw_then ?_; refine cC7 3 6 8 14 15 16 89 (fun L => ?_)
     refine cw_t (by kernel_rfl) ?_
     refine cw_draw [(some 90, [14], []), (some 91, [90], [0]), (some 92, [91], [1]), (some 93, [15], []), (some 94, [14], []), (some 95, [94], [4]), (some 96, [95], [5]), (some 97, [15], []), (some 98, [96, 97], [6, 7]), (some 99, [98], [8]), (some 100, [16], []), (some 101, [100], [10]), (some 102, [99, 101], [9, 11]), (some 103, [92, 93], [2, 3, 0, 1, 2, 3, 4, 5, 6, 7, 8, 9, 10, 11, 12]), (none, [103, 102], [13, 12, 0, 1, 2, 3, 4, 5, 6, 7, 8, 9, 10, 11, 12])] (fun w' => w'.cell? ⟨O102, 0, none⟩ = some (.slice (some ⟨B90, 0, none⟩) 24 24)) (by kernel_rfl) (by kernel_rfl) (by kernel_rfl) (by kernel_rfl) ((calm_then (calm_block (calm_then (calm_then (calm_block (calm_block (calm_then (calm_then (calm_block (calm_then calm_body))))))))))) (bO102_tt141.1) (fun ops Q X156 hb hL hR hK => ?_)
     replace hE := hE.trans hb; replace bO1_ttt129 := BoxAt.ext hb bO1_ttt129; replace bO1_ttt130 := BoxAt.ext hb bO1_ttt130; replace bO1_ttt131 := BoxAt.ext hb bO1_ttt131; replace bO1_ttt132 := BoxAt.ext hb bO1_ttt132; replace bO1_ttt133 := BoxAt.ext hb bO1_ttt133; replace bO1_ttt134 := BoxAt.ext hb bO1_ttt134; replace bO1_ttt135 := BoxAt.ext hb bO1_ttt135; replace bO5_ttt136 := BoxAt.ext hb bO5_ttt136; replace bO5_ttt137 := BoxAt.ext hb bO5_ttt137; replace bO9_ttt138 := BoxAt.ext hb bO9_ttt138; replace bO9_ttt139 := BoxAt.ext hb bO9_ttt139; replace hmtt140 := hmtt140.ext hb; replace bO102_tt141 := BoxAt.ext hb bO102_tt141; replace bO102_tt142 := BoxAt.ext hb bO102_tt142; replace hrS := hrS.ext hb; replace hrC := hrC.ext hb; replace hvb148 := hvb148.ext hb; replace hvb150 := hvb150.ext hb; have hs157 := hb.size; clear hb
     refine wT 0 (.pointer (some ⟨O102, 0, none⟩)) hR (fun w _ => by kernel_rfl) (bO102_tt141.1) ?_
     refine wT 1 (.pointer (some ⟨O102, 0, none⟩)) hR (fun w _ => by kernel_rfl) (bO102_tt141.1) ?_
     refine wT 2 (.slice (some ⟨B90, 0, none⟩) 24 24) hR (fun w hS => ex_load rfl (by kernel_rfl) (ld29 (hS))) (bO102_tt141.1) ?_
     refine wT 3 (.int .i64 (((y : Nat) : Int) : Int)) hR (fun w _ => by kernel_rfl) (bO102_tt141.1) ?_
     refine wT 4 (.pointer (some ⟨O102, 0, none⟩)) hR (fun w _ => by kernel_rfl) (bO102_tt141.1) ?_
     refine wT 5 (.pointer (some ⟨O102, 0, none⟩)) hR (fun w _ => by kernel_rfl) (bO102_tt141.1) ?_
     refine wT 6 (.slice (some ⟨B90, 0, none⟩) 24 24) hR (fun w hS => ex_load rfl (by kernel_rfl) (ld29 (hS))) (bO102_tt141.1) ?_
     refine wT 7 (.int .i64 (((y : Nat) : Int) : Int)) hR (fun w _ => by kernel_rfl) (bO102_tt141.1) ?_
     refine wT 8 (.pointer (some ⟨B90, y, none⟩)) hR (fun w _ => ex_index (p := .slice (some ⟨B90, 0, none⟩) 24 24) (i := .int .i64 ((y : Nat) : Int)) rfl (by kernel_rfl) (by kernel_rfl) (ix29z (k := y) (by omega))) (bO102_tt141.1) ?_
     refine wT 10 (.int .i64 (((x : Nat) : Int) : Int)) hR (fun w _ => by kernel_rfl) (bO102_tt141.1) ?_
     refine wT 11 (.int .i64 (((2 ^ x : Nat) : Int) : Int)) hR (fun w _ => ex_bin rfl (by kernel_rfl) (by kernel_rfl) (bin_shl1 (by omega))) (bO102_tt141.1) ?_
     refine wS 9 hR (sn_eff (v := .int .i64 (((Globe.rowN (Swath.partS (Swath.bS o s lk) (y * 48 + x)) y : Nat) : Int) : Int)) (w' := X156) (ex_load rfl (by kernel_rfl) (ld3 (hvb148.cell0 (y := y) (by omega)))) ⟨bO102_tt141.1, ?_⟩)
     refine wT 12 (.int .i64 ((((Globe.rowN (Swath.partS (Swath.bS o s lk) (y * 48 + x)) y) ||| (2 ^ x) : Nat) : Int) : Int)) hR (fun w _ => ev_int (show _ = Result.ok (Next.value (Value.int .i64 (bits .or .i64 ((Globe.rowN (Swath.partS (Swath.bS o s lk) (y * 48 + x)) y : Nat) : Int) ((2 ^ x : Nat) : Int)))) _ from by kernel_rfl) (or_i64 _ _ (by omega) (by omega))) (bO102_tt141.1) ?_
     refine wT 13 (.pointer (some ⟨B90, y, none⟩)) hR (fun w _ => ex_index (p := .slice (some ⟨B90, 0, none⟩) 24 24) (i := .int .i64 ((y : Nat) : Int)) rfl (by kernel_rfl) (by kernel_rfl) (ix29z (k := y) (by omega))) (bO102_tt141.1) ?_
     refine wS 14 hR (sn_row (g := B90) (y := y) (v := (((Globe.rowN (Swath.partS (Swath.bS o s lk) (y * 48 + x)) y) ||| (2 ^ x) : Nat) : Int)) (ex_store (p := .pointer (some ⟨B90, y, none⟩)) (v := .int .i64 ((((Globe.rowN (Swath.partS (Swath.bS o s lk) (y * 48 + x)) y) ||| (2 ^ x) : Nat) : Int) : Int)) rfl (by kernel_rfl) (by kernel_rfl) (st3 (hrS.cell (by omega)) (hrS.free (by omega)))) hrS (by omega) ?_)
     intro X158 ho hv0; replace hE := ho.ext hE (T (T hs3 (T hs7 (T hs11 (T hs14 (T hs18 hs33))))) hn91)
     have q9 := fun (j : Nat) (v : Value) (h : BoxAt _ O1 j v) => ho.box (Nat.ne_of_gt (Nat.lt_of_lt_of_le lt4 (T (T hs7 (T hs11 (T hs14 (T hs18 hs33)))) hn91))) h
     replace bO1_ttt129 := q9 _ _ bO1_ttt129; replace bO1_ttt130 := q9 _ _ bO1_ttt130; replace bO1_ttt131 := q9 _ _ bO1_ttt131; replace bO1_ttt132 := q9 _ _ bO1_ttt132; replace bO1_ttt133 := q9 _ _ bO1_ttt133; replace bO1_ttt134 := q9 _ _ bO1_ttt134; replace bO1_ttt135 := q9 _ _ bO1_ttt135; clear q9
     have q9 := fun (j : Nat) (v : Value) (h : BoxAt _ O5 j v) => ho.box (Nat.ne_of_gt (Nat.lt_of_lt_of_le lt8 (T (T hs11 (T hs14 (T hs18 hs33))) hn91))) h
     replace bO5_ttt136 := q9 _ _ bO5_ttt136; replace bO5_ttt137 := q9 _ _ bO5_ttt137; clear q9
     have q9 := fun (j : Nat) (v : Value) (h : BoxAt _ O9 j v) => ho.box (Nat.ne_of_gt (Nat.lt_of_lt_of_le lt12 (T (T hs14 (T hs18 hs33)) hn91))) h
     replace bO9_ttt138 := q9 _ _ bO9_ttt138; replace bO9_ttt139 := q9 _ _ bO9_ttt139; clear q9; replace hmtt140 := ho.arr (Nat.ne_of_gt (Nat.lt_of_lt_of_le lt19 (T hs33 hn91))) hmtt140
     have q9 := fun (j : Nat) (v : Value) (h : BoxAt _ O102 j v) => ho.box (Nat.ne_of_lt (Nat.lt_of_lt_of_le lt95 (T hs100 (Nat.le_of_eq hzO102)))) h
     replace bO102_tt141 := q9 _ _ bO102_tt141; replace bO102_tt142 := q9 _ _ bO102_tt142; clear q9; replace hrC := ho.rows (Nat.ne_of_lt (Nat.lt_of_lt_of_le lt95 hn97)) hrC; replace hvb150 := ho.va (Nat.ne_of_lt (Nat.lt_of_lt_of_le lt95 hn97)) hvb150; have hs159 : X156.heap.size ≤ X158.heap.size := Nat.le_of_eq ho.size.symm; clear ho hrS; have hrS := hv0; clear hv0
     refine ⟨bO102_tt141.1, ?_⟩
     refine wd_end hL hR hK (by kernel_rfl) ?_
     refine qw_then ?_; refine cC6 3 6 8 14 15 16 (fun L => ?_); refine cw_seq ?_
     rcases Bool.eq_false_or_eq_true (Swath.bC o s lk (y * 48 + x)) with hbC | hbC
     ·
      have hcC : (0 < Swath.cnt (Swath.areaJ o s lk) (Swath.lates o) (y * 48 + x)) := of_decide_eq_true hbC
      refine cw_plain ?_; refine pT (.int .i64 (((y : Nat) : Int) : Int)) ?_; refine pT (.int .i64 (((x : Nat) : Int) : Int)) ?_
      refine pU (.pointer (some ⟨O15, y * 48, none⟩)) (ex_index (p := .pointer (some ⟨O15, 0, none⟩)) (i := .int .i64 ((y : Nat) : Int)) rfl (by kernel_rfl) (by kernel_rfl) (ia80 (k := y) (by omega))) ?_
      refine pU (.pointer (some ⟨O15, y * 48 + x, none⟩)) (ex_index (p := .pointer (some ⟨O15, y * 48, none⟩)) (i := .int .i64 ((x : Nat) : Int)) rfl (by kernel_rfl) (by kernel_rfl) (ia79 (k := x) (by omega))) ?_
      refine pU (.int .i64 ((Swath.cnt (Swath.areaJ o s lk) (Swath.lates o)) (y * 48 + x) : Int)) (ex_load rfl (by kernel_rfl) (ld3 ((hmtt140.at (k := y * 48 + x) (by omega)).1))) ?_
      refine pU (.bool true) (ev_dec (show _ = Result.ok (Next.value (Value.bool (decide (((Swath.cnt (Swath.areaJ o s lk) (Swath.lates o)) (y * 48 + x) : Int) > (0 : Int))))) _ from by kernel_rfl) (by omega)) ?_
      refine pl_nil ?_; refine qw_then ?_
      refine cw_t (by kernel_rfl) ?_
      refine cw_draw [(some 110, [14], []), (some 111, [110], [0]), (some 112, [111], [1]), (some 113, [15], []), (some 114, [14], []), (some 115, [114], [4]), (some 116, [115], [5]), (some 117, [15], []), (some 118, [116, 117], [6, 7]), (some 119, [118], [8]), (some 120, [16], []), (some 121, [120], [10]), (some 122, [119, 121], [9, 11]), (some 123, [112, 113], [2, 3, 0, 1, 2, 3, 4, 5, 6, 7, 8, 9, 10, 11, 12]), (none, [123, 122], [13, 12, 0, 1, 2, 3, 4, 5, 6, 7, 8, 9, 10, 11, 12])] (fun w' => w'.cell? ⟨O102, 1, none⟩ = some (.slice (some ⟨B96, 0, none⟩) 24 24)) (by kernel_rfl) (by kernel_rfl) (by kernel_rfl) (by kernel_rfl) ((calm_block (calm_then (calm_then (calm_block (calm_block (calm_then (calm_then (calm_block (calm_then calm_body)))))))))) (bO102_tt142.1) (fun ops Q X160 hb hL hR hK => ?_)
      replace hE := hE.trans hb; replace bO1_ttt129 := BoxAt.ext hb bO1_ttt129; replace bO1_ttt130 := BoxAt.ext hb bO1_ttt130; replace bO1_ttt131 := BoxAt.ext hb bO1_ttt131; replace bO1_ttt132 := BoxAt.ext hb bO1_ttt132; replace bO1_ttt133 := BoxAt.ext hb bO1_ttt133; replace bO1_ttt134 := BoxAt.ext hb bO1_ttt134; replace bO1_ttt135 := BoxAt.ext hb bO1_ttt135; replace bO5_ttt136 := BoxAt.ext hb bO5_ttt136; replace bO5_ttt137 := BoxAt.ext hb bO5_ttt137; replace bO9_ttt138 := BoxAt.ext hb bO9_ttt138; replace bO9_ttt139 := BoxAt.ext hb bO9_ttt139; replace hmtt140 := hmtt140.ext hb; replace bO102_tt141 := BoxAt.ext hb bO102_tt141; replace bO102_tt142 := BoxAt.ext hb bO102_tt142; replace hrC := hrC.ext hb; replace hvb150 := hvb150.ext hb; replace hrS := hrS.ext hb; have hs161 := hb.size; clear hb
      refine wT 0 (.pointer (some ⟨O102, 1, none⟩)) hR (fun w _ => by kernel_rfl) (bO102_tt142.1) ?_
      refine wT 1 (.pointer (some ⟨O102, 1, none⟩)) hR (fun w _ => by kernel_rfl) (bO102_tt142.1) ?_
      refine wT 2 (.slice (some ⟨B96, 0, none⟩) 24 24) hR (fun w hS => ex_load rfl (by kernel_rfl) (ld29 (hS))) (bO102_tt142.1) ?_
      refine wT 3 (.int .i64 (((y : Nat) : Int) : Int)) hR (fun w _ => by kernel_rfl) (bO102_tt142.1) ?_
      refine wT 4 (.pointer (some ⟨O102, 1, none⟩)) hR (fun w _ => by kernel_rfl) (bO102_tt142.1) ?_
      refine wT 5 (.pointer (some ⟨O102, 1, none⟩)) hR (fun w _ => by kernel_rfl) (bO102_tt142.1) ?_
      refine wT 6 (.slice (some ⟨B96, 0, none⟩) 24 24) hR (fun w hS => ex_load rfl (by kernel_rfl) (ld29 (hS))) (bO102_tt142.1) ?_
      refine wT 7 (.int .i64 (((y : Nat) : Int) : Int)) hR (fun w _ => by kernel_rfl) (bO102_tt142.1) ?_
      refine wT 8 (.pointer (some ⟨B96, y, none⟩)) hR (fun w _ => ex_index (p := .slice (some ⟨B96, 0, none⟩) 24 24) (i := .int .i64 ((y : Nat) : Int)) rfl (by kernel_rfl) (by kernel_rfl) (ix29z (k := y) (by omega))) (bO102_tt142.1) ?_
      refine wT 10 (.int .i64 (((x : Nat) : Int) : Int)) hR (fun w _ => by kernel_rfl) (bO102_tt142.1) ?_
      refine wT 11 (.int .i64 (((2 ^ x : Nat) : Int) : Int)) hR (fun w _ => ex_bin rfl (by kernel_rfl) (by kernel_rfl) (bin_shl1 (by omega))) (bO102_tt142.1) ?_
      refine wS 9 hR (sn_eff (v := .int .i64 (((Globe.rowN (Swath.partS (Swath.bC o s lk) (y * 48 + x)) y : Nat) : Int) : Int)) (w' := X160) (ex_load rfl (by kernel_rfl) (ld3 (hvb150.cell0 (y := y) (by omega)))) ⟨bO102_tt142.1, ?_⟩)
      refine wT 12 (.int .i64 ((((Globe.rowN (Swath.partS (Swath.bC o s lk) (y * 48 + x)) y) ||| (2 ^ x) : Nat) : Int) : Int)) hR (fun w _ => ev_int (show _ = Result.ok (Next.value (Value.int .i64 (bits .or .i64 ((Globe.rowN (Swath.partS (Swath.bC o s lk) (y * 48 + x)) y : Nat) : Int) ((2 ^ x : Nat) : Int)))) _ from by kernel_rfl) (or_i64 _ _ (by omega) (by omega))) (bO102_tt142.1) ?_
      refine wT 13 (.pointer (some ⟨B96, y, none⟩)) hR (fun w _ => ex_index (p := .slice (some ⟨B96, 0, none⟩) 24 24) (i := .int .i64 ((y : Nat) : Int)) rfl (by kernel_rfl) (by kernel_rfl) (ix29z (k := y) (by omega))) (bO102_tt142.1) ?_
      refine wS 14 hR (sn_row (g := B96) (y := y) (v := (((Globe.rowN (Swath.partS (Swath.bC o s lk) (y * 48 + x)) y) ||| (2 ^ x) : Nat) : Int)) (ex_store (p := .pointer (some ⟨B96, y, none⟩)) (v := .int .i64 ((((Globe.rowN (Swath.partS (Swath.bC o s lk) (y * 48 + x)) y) ||| (2 ^ x) : Nat) : Int) : Int)) rfl (by kernel_rfl) (by kernel_rfl) (st3 (hrC.cell (by omega)) (hrC.free (by omega)))) hrC (by omega) ?_)
      intro X162 ho hv0; replace hE := ho.ext hE (T (T hs3 (T hs7 (T hs11 (T hs14 (T hs18 (T hs33 hs94)))))) hn97)
      have q9 := fun (j : Nat) (v : Value) (h : BoxAt _ O1 j v) => ho.box (Nat.ne_of_gt (Nat.lt_of_lt_of_le lt4 (T (T hs7 (T hs11 (T hs14 (T hs18 (T hs33 hs94))))) hn97))) h
      replace bO1_ttt129 := q9 _ _ bO1_ttt129; replace bO1_ttt130 := q9 _ _ bO1_ttt130; replace bO1_ttt131 := q9 _ _ bO1_ttt131; replace bO1_ttt132 := q9 _ _ bO1_ttt132; replace bO1_ttt133 := q9 _ _ bO1_ttt133; replace bO1_ttt134 := q9 _ _ bO1_ttt134; replace bO1_ttt135 := q9 _ _ bO1_ttt135; clear q9
      have q9 := fun (j : Nat) (v : Value) (h : BoxAt _ O5 j v) => ho.box (Nat.ne_of_gt (Nat.lt_of_lt_of_le lt8 (T (T hs11 (T hs14 (T hs18 (T hs33 hs94)))) hn97))) h
      replace bO5_ttt136 := q9 _ _ bO5_ttt136; replace bO5_ttt137 := q9 _ _ bO5_ttt137; clear q9
      have q9 := fun (j : Nat) (v : Value) (h : BoxAt _ O9 j v) => ho.box (Nat.ne_of_gt (Nat.lt_of_lt_of_le lt12 (T (T hs14 (T hs18 (T hs33 hs94))) hn97))) h
      replace bO9_ttt138 := q9 _ _ bO9_ttt138; replace bO9_ttt139 := q9 _ _ bO9_ttt139; clear q9; replace hmtt140 := ho.arr (Nat.ne_of_gt (Nat.lt_of_lt_of_le lt19 (T (T hs33 hs94) hn97))) hmtt140
      have q9 := fun (j : Nat) (v : Value) (h : BoxAt _ O102 j v) => ho.box (Nat.ne_of_lt (Nat.lt_of_lt_of_le lt101 (Nat.le_of_eq hzO102))) h
      replace bO102_tt141 := q9 _ _ bO102_tt141; replace bO102_tt142 := q9 _ _ bO102_tt142; clear q9; replace hrS := ho.rows (Nat.ne_of_gt (Nat.lt_of_lt_of_le lt95 hn97)) hrS; have hs163 : X160.heap.size ≤ X162.heap.size := Nat.le_of_eq ho.size.symm; clear ho hrC; have hrC := hv0; clear hv0
      refine ⟨bO102_tt142.1, ?_⟩
      refine wd_end hL hR hK (by kernel_rfl) ?_
      refine qw_block ?_
      refine qw_then ?_; refine cC6 3 6 8 14 15 16 (fun L => ?_); refine cw_plain ?_; refine pT (.int .i64 (((x : Nat) : Int) : Int)) ?_
      refine pU (.int .i64 (((x + 1 : Nat) : Int) : Int)) (ev_wrap (by kernel_rfl) (by omega) (by omega)) ?_
      refine pT (.int .i64 (((x + 1 : Nat) : Int) : Int)) ?_; refine pl_nil ?_
      refine qw_round [3, 6, 8, 14, 15, 16] (ws' := [(3, .pointer (some ⟨O1, 0, none⟩)), (6, .pointer (some ⟨O9, 0, none⟩)), (8, .pointer (some ⟨O15, 0, none⟩)), (14, .pointer (some ⟨O102, 0, none⟩)), (15, .int .i64 (((y : Nat) : Int) : Int)), (16, .int .i64 (((x + 1 : Nat) : Int) : Int))]) (by kernel_rfl) _ ?_ ⟨(x + 1), rfl, rfl, (T hs145 (T hs154 (T hs157 (T hs159 (T hs161 hs163))))), hE, bO1_ttt129, bO1_ttt130, bO1_ttt131, bO1_ttt132, bO1_ttt133, bO1_ttt134, bO1_ttt135, bO5_ttt136, bO5_ttt137, bO9_ttt138, bO9_ttt139, hmtt140, bO102_tt141, bO102_tt142, (by rw [← Swath.part_put hltx hbS]; exact hrS), (by rw [← Swath.part_put hltx hbC]; exact hrC), by omega⟩
      omega
     ·
      have hcC : ¬ (0 < Swath.cnt (Swath.areaJ o s lk) (Swath.lates o) (y * 48 + x)) := of_decide_eq_false hbC
      refine cw_plain ?_; refine pT (.int .i64 (((y : Nat) : Int) : Int)) ?_; refine pT (.int .i64 (((x : Nat) : Int) : Int)) ?_
      refine pU (.pointer (some ⟨O15, y * 48, none⟩)) (ex_index (p := .pointer (some ⟨O15, 0, none⟩)) (i := .int .i64 ((y : Nat) : Int)) rfl (by kernel_rfl) (by kernel_rfl) (ia80 (k := y) (by omega))) ?_
      refine pU (.pointer (some ⟨O15, y * 48 + x, none⟩)) (ex_index (p := .pointer (some ⟨O15, y * 48, none⟩)) (i := .int .i64 ((x : Nat) : Int)) rfl (by kernel_rfl) (by kernel_rfl) (ia79 (k := x) (by omega))) ?_
      refine pU (.int .i64 ((Swath.cnt (Swath.areaJ o s lk) (Swath.lates o)) (y * 48 + x) : Int)) (ex_load rfl (by kernel_rfl) (ld3 ((hmtt140.at (k := y * 48 + x) (by omega)).1))) ?_
      refine pU (.bool false) (ev_ndec (show _ = Result.ok (Next.value (Value.bool (decide (((Swath.cnt (Swath.areaJ o s lk) (Swath.lates o)) (y * 48 + x) : Int) > (0 : Int))))) _ from by kernel_rfl) (by omega)) ?_
      refine pl_nil ?_; refine qw_then ?_
      refine cw_f (by kernel_rfl) ?_
      refine cw_skip ?_
      refine qw_block ?_
      refine qw_then ?_; refine cw_plain ?_; refine pT (.int .i64 (((x : Nat) : Int) : Int)) ?_
      refine pU (.int .i64 (((x + 1 : Nat) : Int) : Int)) (ev_wrap (by kernel_rfl) (by omega) (by omega)) ?_
      refine pT (.int .i64 (((x + 1 : Nat) : Int) : Int)) ?_; refine pl_nil ?_
      refine qw_round [3, 6, 8, 14, 15, 16] (ws' := [(3, .pointer (some ⟨O1, 0, none⟩)), (6, .pointer (some ⟨O9, 0, none⟩)), (8, .pointer (some ⟨O15, 0, none⟩)), (14, .pointer (some ⟨O102, 0, none⟩)), (15, .int .i64 (((y : Nat) : Int) : Int)), (16, .int .i64 (((x + 1 : Nat) : Int) : Int))]) (by kernel_rfl) _ ?_ ⟨(x + 1), rfl, rfl, (T hs145 (T hs154 (T hs157 hs159))), hE, bO1_ttt129, bO1_ttt130, bO1_ttt131, bO1_ttt132, bO1_ttt133, bO1_ttt134, bO1_ttt135, bO5_ttt136, bO5_ttt137, bO9_ttt138, bO9_ttt139, hmtt140, bO102_tt141, bO102_tt142, (by rw [← Swath.part_put hltx hbS]; exact hrS), (by rw [← Swath.part_skip hbC]; exact hrC), by omega⟩
      omega
    ·
     have hcS : ¬ (Swath.cnt (Swath.areaJ o s lk) (Swath.lates o) (y * 48 + x) = ((Swath.lates o : Nat) : Int)) := of_decide_eq_false hbS
     have hvb164 := RowsAt.va hrS (Swath.part_valid _ _)
     have hrl165 := Globe.rowN_lt (Swath.part_valid (Swath.bS o s lk) (y * 48 + x)) y
     have hvb166 := RowsAt.va hrC (Swath.part_valid _ _)
     have hrl167 := Globe.rowN_lt (Swath.part_valid (Swath.bC o s lk) (y * 48 + x)) y
     have hpw168 : 2 ^ x < 2 ^ 48 := Nat.pow_lt_pow_right (by decide) hltx
     refine cw_draw [(some 80, [15], []), (some 81, [16], []), (some 82, [8, 80], [0]), (some 83, [82, 81], [2, 1]), (some 84, [83], [3]), (some 85, [3], []), (some 86, [85], [5]), (some 87, [86], [6]), (some 88, [87], [7]), (some 89, [84, 88], [4, 8])] (fun w' => w'.cell? ⟨O15, y * 48 + x, none⟩ = some (.int .i64 ((Swath.cnt (Swath.areaJ o s lk) (Swath.lates o)) (y * 48 + x) : Int)) ∧ w'.cell? ⟨O1, 6, none⟩ = some (.int .i64 o.sl)) (by kernel_rfl) (by kernel_rfl) (by kernel_rfl) (by kernel_rfl) ((calm_then (calm_then (calm_block (calm_then (calm_then (calm_block (calm_block (calm_then (calm_then (calm_block (calm_then calm_body)))))))))))) (⟨(hmtt140.at (k := y * 48 + x) (by omega)).1, bO1_ttt135.1⟩) (fun ops Q X169 hb hL hR hK => ?_)
     replace hE := hE.trans hb; replace bO1_ttt129 := BoxAt.ext hb bO1_ttt129; replace bO1_ttt130 := BoxAt.ext hb bO1_ttt130; replace bO1_ttt131 := BoxAt.ext hb bO1_ttt131; replace bO1_ttt132 := BoxAt.ext hb bO1_ttt132; replace bO1_ttt133 := BoxAt.ext hb bO1_ttt133; replace bO1_ttt134 := BoxAt.ext hb bO1_ttt134; replace bO1_ttt135 := BoxAt.ext hb bO1_ttt135; replace bO5_ttt136 := BoxAt.ext hb bO5_ttt136; replace bO5_ttt137 := BoxAt.ext hb bO5_ttt137; replace bO9_ttt138 := BoxAt.ext hb bO9_ttt138; replace bO9_ttt139 := BoxAt.ext hb bO9_ttt139; replace hmtt140 := hmtt140.ext hb; replace bO102_tt141 := BoxAt.ext hb bO102_tt141; replace bO102_tt142 := BoxAt.ext hb bO102_tt142; replace hrS := hrS.ext hb; replace hrC := hrC.ext hb; replace hvb164 := hvb164.ext hb; replace hvb166 := hvb166.ext hb; have hs170 := hb.size; clear hb
     have hS171 := And.intro ((hmtt140.at (k := y * 48 + x) (by omega)).1) (bO1_ttt135.1)
     refine wT 0 (.int .i64 (((y : Nat) : Int) : Int)) hR (fun w _ => by kernel_rfl) (hS171) ?_
     refine wT 1 (.int .i64 (((x : Nat) : Int) : Int)) hR (fun w _ => by kernel_rfl) (hS171) ?_
     refine wT 2 (.pointer (some ⟨O15, y * 48, none⟩)) hR (fun w _ => ex_index (p := .pointer (some ⟨O15, 0, none⟩)) (i := .int .i64 ((y : Nat) : Int)) rfl (by kernel_rfl) (by kernel_rfl) (ia80 (k := y) (by omega))) (hS171) ?_
     refine wT 3 (.pointer (some ⟨O15, y * 48 + x, none⟩)) hR (fun w _ => ex_index (p := .pointer (some ⟨O15, y * 48, none⟩)) (i := .int .i64 ((x : Nat) : Int)) rfl (by kernel_rfl) (by kernel_rfl) (ia79 (k := x) (by omega))) (hS171) ?_
     refine wT 4 (.int .i64 ((Swath.cnt (Swath.areaJ o s lk) (Swath.lates o)) (y * 48 + x) : Int)) hR (fun w hS => ex_load rfl (by kernel_rfl) (ld3 (hS.1))) (hS171) ?_
     refine wT 5 (.pointer (some ⟨O1, 6, none⟩)) hR (fun w _ => by kernel_rfl) (hS171) ?_
     refine wT 6 (.int .i64 o.sl) hR (fun w hS => ex_load rfl (by kernel_rfl) (ld3 (hS.2))) (hS171) ?_
     refine wT 7 (.int .i64 (2 * o.sl : Int)) hR (fun w _ => ev_wrap (by kernel_rfl) (by omega) (by omega)) (hS171) ?_
     refine wT 8 (.int .i64 ((2 * o.sl) + 1 : Int)) hR (fun w _ => ev_wrap (by kernel_rfl) (by omega) (by omega)) (hS171) ?_
     refine wT 9 (.bool false) hR (fun w _ => ev_neq (show _ = Result.ok (Next.value (Value.bool (((Swath.cnt (Swath.areaJ o s lk) (Swath.lates o)) (y * 48 + x) : Int) == ((2 * o.sl) + 1 : Int)))) _ from by kernel_rfl) (by omega)) (hS171) ?_
     refine wd_end hL hR hK (by kernel_rfl) ?_
     refine qw_then ?_; refine cC7 3 6 8 14 15 16 89 (fun L => ?_)
     refine cw_f (by kernel_rfl) ?_
     refine cw_skip ?_
     refine qw_then ?_; refine cw_seq ?_
     rcases Bool.eq_false_or_eq_true (Swath.bC o s lk (y * 48 + x)) with hbC | hbC
     ·
      have hcC : (0 < Swath.cnt (Swath.areaJ o s lk) (Swath.lates o) (y * 48 + x)) := of_decide_eq_true hbC
      refine cw_plain ?_; refine pT (.int .i64 (((y : Nat) : Int) : Int)) ?_; refine pT (.int .i64 (((x : Nat) : Int) : Int)) ?_
      refine pU (.pointer (some ⟨O15, y * 48, none⟩)) (ex_index (p := .pointer (some ⟨O15, 0, none⟩)) (i := .int .i64 ((y : Nat) : Int)) rfl (by kernel_rfl) (by kernel_rfl) (ia80 (k := y) (by omega))) ?_
      refine pU (.pointer (some ⟨O15, y * 48 + x, none⟩)) (ex_index (p := .pointer (some ⟨O15, y * 48, none⟩)) (i := .int .i64 ((x : Nat) : Int)) rfl (by kernel_rfl) (by kernel_rfl) (ia79 (k := x) (by omega))) ?_
      refine pU (.int .i64 ((Swath.cnt (Swath.areaJ o s lk) (Swath.lates o)) (y * 48 + x) : Int)) (ex_load rfl (by kernel_rfl) (ld3 ((hmtt140.at (k := y * 48 + x) (by omega)).1))) ?_
      refine pU (.bool true) (ev_dec (show _ = Result.ok (Next.value (Value.bool (decide (((Swath.cnt (Swath.areaJ o s lk) (Swath.lates o)) (y * 48 + x) : Int) > (0 : Int))))) _ from by kernel_rfl) (by omega)) ?_
      refine pl_nil ?_; refine qw_then ?_
      refine cw_t (by kernel_rfl) ?_
      refine cw_draw [(some 110, [14], []), (some 111, [110], [0]), (some 112, [111], [1]), (some 113, [15], []), (some 114, [14], []), (some 115, [114], [4]), (some 116, [115], [5]), (some 117, [15], []), (some 118, [116, 117], [6, 7]), (some 119, [118], [8]), (some 120, [16], []), (some 121, [120], [10]), (some 122, [119, 121], [9, 11]), (some 123, [112, 113], [2, 3, 0, 1, 2, 3, 4, 5, 6, 7, 8, 9, 10, 11, 12]), (none, [123, 122], [13, 12, 0, 1, 2, 3, 4, 5, 6, 7, 8, 9, 10, 11, 12])] (fun w' => w'.cell? ⟨O102, 1, none⟩ = some (.slice (some ⟨B96, 0, none⟩) 24 24)) (by kernel_rfl) (by kernel_rfl) (by kernel_rfl) (by kernel_rfl) ((calm_block (calm_then (calm_then (calm_block (calm_block (calm_then (calm_then (calm_block (calm_then calm_body)))))))))) (bO102_tt142.1) (fun ops Q X172 hb hL hR hK => ?_)
      replace hE := hE.trans hb; replace bO1_ttt129 := BoxAt.ext hb bO1_ttt129; replace bO1_ttt130 := BoxAt.ext hb bO1_ttt130; replace bO1_ttt131 := BoxAt.ext hb bO1_ttt131; replace bO1_ttt132 := BoxAt.ext hb bO1_ttt132; replace bO1_ttt133 := BoxAt.ext hb bO1_ttt133; replace bO1_ttt134 := BoxAt.ext hb bO1_ttt134; replace bO1_ttt135 := BoxAt.ext hb bO1_ttt135; replace bO5_ttt136 := BoxAt.ext hb bO5_ttt136; replace bO5_ttt137 := BoxAt.ext hb bO5_ttt137; replace bO9_ttt138 := BoxAt.ext hb bO9_ttt138; replace bO9_ttt139 := BoxAt.ext hb bO9_ttt139; replace hmtt140 := hmtt140.ext hb; replace bO102_tt141 := BoxAt.ext hb bO102_tt141; replace bO102_tt142 := BoxAt.ext hb bO102_tt142; replace hrS := hrS.ext hb; replace hrC := hrC.ext hb; replace hvb164 := hvb164.ext hb; replace hvb166 := hvb166.ext hb; have hs173 := hb.size; clear hb
      refine wT 0 (.pointer (some ⟨O102, 1, none⟩)) hR (fun w _ => by kernel_rfl) (bO102_tt142.1) ?_
      refine wT 1 (.pointer (some ⟨O102, 1, none⟩)) hR (fun w _ => by kernel_rfl) (bO102_tt142.1) ?_
      refine wT 2 (.slice (some ⟨B96, 0, none⟩) 24 24) hR (fun w hS => ex_load rfl (by kernel_rfl) (ld29 (hS))) (bO102_tt142.1) ?_
      refine wT 3 (.int .i64 (((y : Nat) : Int) : Int)) hR (fun w _ => by kernel_rfl) (bO102_tt142.1) ?_
      refine wT 4 (.pointer (some ⟨O102, 1, none⟩)) hR (fun w _ => by kernel_rfl) (bO102_tt142.1) ?_
      refine wT 5 (.pointer (some ⟨O102, 1, none⟩)) hR (fun w _ => by kernel_rfl) (bO102_tt142.1) ?_
      refine wT 6 (.slice (some ⟨B96, 0, none⟩) 24 24) hR (fun w hS => ex_load rfl (by kernel_rfl) (ld29 (hS))) (bO102_tt142.1) ?_
      refine wT 7 (.int .i64 (((y : Nat) : Int) : Int)) hR (fun w _ => by kernel_rfl) (bO102_tt142.1) ?_
      refine wT 8 (.pointer (some ⟨B96, y, none⟩)) hR (fun w _ => ex_index (p := .slice (some ⟨B96, 0, none⟩) 24 24) (i := .int .i64 ((y : Nat) : Int)) rfl (by kernel_rfl) (by kernel_rfl) (ix29z (k := y) (by omega))) (bO102_tt142.1) ?_
      refine wT 10 (.int .i64 (((x : Nat) : Int) : Int)) hR (fun w _ => by kernel_rfl) (bO102_tt142.1) ?_
      refine wT 11 (.int .i64 (((2 ^ x : Nat) : Int) : Int)) hR (fun w _ => ex_bin rfl (by kernel_rfl) (by kernel_rfl) (bin_shl1 (by omega))) (bO102_tt142.1) ?_
      refine wS 9 hR (sn_eff (v := .int .i64 (((Globe.rowN (Swath.partS (Swath.bC o s lk) (y * 48 + x)) y : Nat) : Int) : Int)) (w' := X172) (ex_load rfl (by kernel_rfl) (ld3 (hvb166.cell0 (y := y) (by omega)))) ⟨bO102_tt142.1, ?_⟩)
      refine wT 12 (.int .i64 ((((Globe.rowN (Swath.partS (Swath.bC o s lk) (y * 48 + x)) y) ||| (2 ^ x) : Nat) : Int) : Int)) hR (fun w _ => ev_int (show _ = Result.ok (Next.value (Value.int .i64 (bits .or .i64 ((Globe.rowN (Swath.partS (Swath.bC o s lk) (y * 48 + x)) y : Nat) : Int) ((2 ^ x : Nat) : Int)))) _ from by kernel_rfl) (or_i64 _ _ (by omega) (by omega))) (bO102_tt142.1) ?_
      refine wT 13 (.pointer (some ⟨B96, y, none⟩)) hR (fun w _ => ex_index (p := .slice (some ⟨B96, 0, none⟩) 24 24) (i := .int .i64 ((y : Nat) : Int)) rfl (by kernel_rfl) (by kernel_rfl) (ix29z (k := y) (by omega))) (bO102_tt142.1) ?_
      refine wS 14 hR (sn_row (g := B96) (y := y) (v := (((Globe.rowN (Swath.partS (Swath.bC o s lk) (y * 48 + x)) y) ||| (2 ^ x) : Nat) : Int)) (ex_store (p := .pointer (some ⟨B96, y, none⟩)) (v := .int .i64 ((((Globe.rowN (Swath.partS (Swath.bC o s lk) (y * 48 + x)) y) ||| (2 ^ x) : Nat) : Int) : Int)) rfl (by kernel_rfl) (by kernel_rfl) (st3 (hrC.cell (by omega)) (hrC.free (by omega)))) hrC (by omega) ?_)
      intro X174 ho hv0; replace hE := ho.ext hE (T (T hs3 (T hs7 (T hs11 (T hs14 (T hs18 (T hs33 hs94)))))) hn97)
      have q9 := fun (j : Nat) (v : Value) (h : BoxAt _ O1 j v) => ho.box (Nat.ne_of_gt (Nat.lt_of_lt_of_le lt4 (T (T hs7 (T hs11 (T hs14 (T hs18 (T hs33 hs94))))) hn97))) h
      replace bO1_ttt129 := q9 _ _ bO1_ttt129; replace bO1_ttt130 := q9 _ _ bO1_ttt130; replace bO1_ttt131 := q9 _ _ bO1_ttt131; replace bO1_ttt132 := q9 _ _ bO1_ttt132; replace bO1_ttt133 := q9 _ _ bO1_ttt133; replace bO1_ttt134 := q9 _ _ bO1_ttt134; replace bO1_ttt135 := q9 _ _ bO1_ttt135; clear q9
      have q9 := fun (j : Nat) (v : Value) (h : BoxAt _ O5 j v) => ho.box (Nat.ne_of_gt (Nat.lt_of_lt_of_le lt8 (T (T hs11 (T hs14 (T hs18 (T hs33 hs94)))) hn97))) h
      replace bO5_ttt136 := q9 _ _ bO5_ttt136; replace bO5_ttt137 := q9 _ _ bO5_ttt137; clear q9
      have q9 := fun (j : Nat) (v : Value) (h : BoxAt _ O9 j v) => ho.box (Nat.ne_of_gt (Nat.lt_of_lt_of_le lt12 (T (T hs14 (T hs18 (T hs33 hs94))) hn97))) h
      replace bO9_ttt138 := q9 _ _ bO9_ttt138; replace bO9_ttt139 := q9 _ _ bO9_ttt139; clear q9; replace hmtt140 := ho.arr (Nat.ne_of_gt (Nat.lt_of_lt_of_le lt19 (T (T hs33 hs94) hn97))) hmtt140
      have q9 := fun (j : Nat) (v : Value) (h : BoxAt _ O102 j v) => ho.box (Nat.ne_of_lt (Nat.lt_of_lt_of_le lt101 (Nat.le_of_eq hzO102))) h
      replace bO102_tt141 := q9 _ _ bO102_tt141; replace bO102_tt142 := q9 _ _ bO102_tt142; clear q9; replace hrS := ho.rows (Nat.ne_of_gt (Nat.lt_of_lt_of_le lt95 hn97)) hrS; replace hvb164 := ho.va (Nat.ne_of_gt (Nat.lt_of_lt_of_le lt95 hn97)) hvb164; have hs175 : X172.heap.size ≤ X174.heap.size := Nat.le_of_eq ho.size.symm; clear ho hrC; have hrC := hv0; clear hv0
      refine ⟨bO102_tt142.1, ?_⟩
      refine wd_end hL hR hK (by kernel_rfl) ?_
      refine qw_block ?_
      refine qw_then ?_; refine cC6 3 6 8 14 15 16 (fun L => ?_); refine cw_plain ?_; refine pT (.int .i64 (((x : Nat) : Int) : Int)) ?_
      refine pU (.int .i64 (((x + 1 : Nat) : Int) : Int)) (ev_wrap (by kernel_rfl) (by omega) (by omega)) ?_
      refine pT (.int .i64 (((x + 1 : Nat) : Int) : Int)) ?_; refine pl_nil ?_
      refine qw_round [3, 6, 8, 14, 15, 16] (ws' := [(3, .pointer (some ⟨O1, 0, none⟩)), (6, .pointer (some ⟨O9, 0, none⟩)), (8, .pointer (some ⟨O15, 0, none⟩)), (14, .pointer (some ⟨O102, 0, none⟩)), (15, .int .i64 (((y : Nat) : Int) : Int)), (16, .int .i64 (((x + 1 : Nat) : Int) : Int))]) (by kernel_rfl) _ ?_ ⟨(x + 1), rfl, rfl, (T hs145 (T hs170 (T hs173 hs175))), hE, bO1_ttt129, bO1_ttt130, bO1_ttt131, bO1_ttt132, bO1_ttt133, bO1_ttt134, bO1_ttt135, bO5_ttt136, bO5_ttt137, bO9_ttt138, bO9_ttt139, hmtt140, bO102_tt141, bO102_tt142, (by rw [← Swath.part_skip hbS]; exact hrS), (by rw [← Swath.part_put hltx hbC]; exact hrC), by omega⟩
      omega
     ·
      have hcC : ¬ (0 < Swath.cnt (Swath.areaJ o s lk) (Swath.lates o) (y * 48 + x)) := of_decide_eq_false hbC
      refine cw_plain ?_; refine pT (.int .i64 (((y : Nat) : Int) : Int)) ?_; refine pT (.int .i64 (((x : Nat) : Int) : Int)) ?_
      refine pU (.pointer (some ⟨O15, y * 48, none⟩)) (ex_index (p := .pointer (some ⟨O15, 0, none⟩)) (i := .int .i64 ((y : Nat) : Int)) rfl (by kernel_rfl) (by kernel_rfl) (ia80 (k := y) (by omega))) ?_
      refine pU (.pointer (some ⟨O15, y * 48 + x, none⟩)) (ex_index (p := .pointer (some ⟨O15, y * 48, none⟩)) (i := .int .i64 ((x : Nat) : Int)) rfl (by kernel_rfl) (by kernel_rfl) (ia79 (k := x) (by omega))) ?_
      refine pU (.int .i64 ((Swath.cnt (Swath.areaJ o s lk) (Swath.lates o)) (y * 48 + x) : Int)) (ex_load rfl (by kernel_rfl) (ld3 ((hmtt140.at (k := y * 48 + x) (by omega)).1))) ?_
      refine pU (.bool false) (ev_ndec (show _ = Result.ok (Next.value (Value.bool (decide (((Swath.cnt (Swath.areaJ o s lk) (Swath.lates o)) (y * 48 + x) : Int) > (0 : Int))))) _ from by kernel_rfl) (by omega)) ?_
      refine pl_nil ?_; refine qw_then ?_
      refine cw_f (by kernel_rfl) ?_
      refine cw_skip ?_
      refine qw_block ?_
      refine qw_then ?_; refine cw_plain ?_; refine pT (.int .i64 (((x : Nat) : Int) : Int)) ?_
      refine pU (.int .i64 (((x + 1 : Nat) : Int) : Int)) (ev_wrap (by kernel_rfl) (by omega) (by omega)) ?_
      refine pT (.int .i64 (((x + 1 : Nat) : Int) : Int)) ?_; refine pl_nil ?_
      refine qw_round [3, 6, 8, 14, 15, 16] (ws' := [(3, .pointer (some ⟨O1, 0, none⟩)), (6, .pointer (some ⟨O9, 0, none⟩)), (8, .pointer (some ⟨O15, 0, none⟩)), (14, .pointer (some ⟨O102, 0, none⟩)), (15, .int .i64 (((y : Nat) : Int) : Int)), (16, .int .i64 (((x + 1 : Nat) : Int) : Int))]) (by kernel_rfl) _ ?_ ⟨(x + 1), rfl, rfl, (T hs145 hs170), hE, bO1_ttt129, bO1_ttt130, bO1_ttt131, bO1_ttt132, bO1_ttt133, bO1_ttt134, bO1_ttt135, bO5_ttt136, bO5_ttt137, bO9_ttt138, bO9_ttt139, hmtt140, bO102_tt141, bO102_tt142, (by rw [← Swath.part_skip hbS]; exact hrS), (by rw [← Swath.part_skip hbC]; exact hrC), by omega⟩
      omega
   ·
    have hxn : x = 48 := by omega
    refine cw_seq ?_; refine cw_seq ?_; refine cw_plain ?_; refine pT (.int .i64 (((x : Nat) : Int) : Int)) ?_
    refine pU (.bool false) (ev_ndec (show _ = Result.ok (Next.value (Value.bool (decide ((((x : Nat) : Int) : Int) < (48 : Int))))) _ from by kernel_rfl) (by omega)) ?_
    refine pl_nil ?_; refine qw_then ?_
    refine cw_f (by kernel_rfl) ?_
    refine cw_exit ?_
    refine qw_then_exit ?_
    refine qw_then_exit ?_
    refine qw_block_out ?_
    refine qw_block ?_
    refine qw_then ?_; refine cw_plain ?_; refine pT (.int .i64 (((y : Nat) : Int) : Int)) ?_
    refine pU (.int .i64 (((y + 1 : Nat) : Int) : Int)) (ev_wrap (by kernel_rfl) (by omega) (by omega)) ?_
    refine pT (.int .i64 (((y + 1 : Nat) : Int) : Int)) ?_; refine pl_nil ?_
    refine qw_round [3, 6, 8, 14, 15] (ws' := [(3, .pointer (some ⟨O1, 0, none⟩)), (6, .pointer (some ⟨O9, 0, none⟩)), (8, .pointer (some ⟨O15, 0, none⟩)), (14, .pointer (some ⟨O102, 0, none⟩)), (15, .int .i64 (((y + 1 : Nat) : Int) : Int))]) (by kernel_rfl) _ ?_ ⟨(y + 1), rfl, rfl, (T hs125 hs145), hE, bO1_ttt129, bO1_ttt130, bO1_ttt131, bO1_ttt132, bO1_ttt133, bO1_ttt134, bO1_ttt135, bO5_ttt136, bO5_ttt137, bO9_ttt138, bO9_ttt139, hmtt140, bO102_tt141, bO102_tt142, (by rw [show (y + 1) * 48 = y * 48 + x by omega]; exact hrS), (by rw [show (y + 1) * 48 = y * 48 + x by omega]; exact hrC), by omega⟩
    omega
  ·
   have hyn : y = 24 := by omega
   refine cw_seq ?_; refine cw_seq ?_; refine cw_plain ?_; refine pT (.int .i64 (((y : Nat) : Int) : Int)) ?_
   refine pU (.bool false) (ev_ndec (show _ = Result.ok (Next.value (Value.bool (decide ((((y : Nat) : Int) : Int) < (24 : Int))))) _ from by kernel_rfl) (by omega)) ?_
   refine pl_nil ?_; refine qw_then ?_
   refine cw_f (by kernel_rfl) ?_
   refine cw_exit ?_
   refine qw_then_exit ?_
   refine qw_then_exit ?_
   refine qw_block_out ?_
   refine qw_then ?_; refine cw_seq ?_; refine cw_plain ?_
   refine pU (.agg #[.slice (some ⟨B90, 0, none⟩) 24 24, .slice (some ⟨B96, 0, none⟩) 24 24]) (ex_load rfl (by kernel_rfl) (ld44 (bO102_t123.1) (bO102_t124.1))) ?_
   refine pP (sn_set2 (O := O9) (j := 0) (v := .slice (some ⟨B90, 0, none⟩) 24 24) (v' := .slice (some ⟨B96, 0, none⟩) 24 24) (ex_store (p := .pointer (some ⟨O9, 0, none⟩)) (v := .agg #[.slice (some ⟨B90, 0, none⟩) 24 24, .slice (some ⟨B96, 0, none⟩) 24 24]) rfl (by kernel_rfl) (by kernel_rfl) (st44 bO9_tt118.1 bO9_tt118.2 bO9_tt119.1 bO9_tt119.2)) bO9_tt118 bO9_tt119 ?_)
   intro X176 ho hv0 hv1 hk; replace hE := ho.ext hE (T (T hs3 hs7) (Nat.le_of_eq hzO9))
   have q9 := fun (j : Nat) (v : Value) (h : BoxAt _ O1 j v) => ho.box (Nat.ne_of_gt (Nat.lt_of_lt_of_le lt4 (T hs7 (Nat.le_of_eq hzO9)))) h
   replace bO1_tt109 := q9 _ _ bO1_tt109; replace bO1_tt110 := q9 _ _ bO1_tt110; replace bO1_tt111 := q9 _ _ bO1_tt111; replace bO1_tt112 := q9 _ _ bO1_tt112; replace bO1_tt113 := q9 _ _ bO1_tt113; replace bO1_tt114 := q9 _ _ bO1_tt114; replace bO1_tt115 := q9 _ _ bO1_tt115; clear q9
   have q9 := fun (j : Nat) (v : Value) (h : BoxAt _ O5 j v) => ho.box (Nat.ne_of_gt (Nat.lt_of_lt_of_le lt8 (Nat.le_of_eq hzO9))) h
   replace bO5_tt116 := q9 _ _ bO5_tt116; replace bO5_tt117 := q9 _ _ bO5_tt117; clear q9; replace hmt120 := ho.arr (Nat.ne_of_lt (Nat.lt_of_lt_of_le lt12 (T hs14 (Nat.le_of_eq hzO15)))) hmt120
   have q9 := fun (j : Nat) (v : Value) (h : BoxAt _ O102 j v) => ho.box (Nat.ne_of_lt (Nat.lt_of_lt_of_le lt12 (T (T hs14 (T hs18 (T hs33 (T hs94 hs100)))) (Nat.le_of_eq hzO102)))) h
   replace bO102_t123 := q9 _ _ bO102_t123; replace bO102_t124 := q9 _ _ bO102_t124; clear q9; replace hrS := ho.rows (Nat.ne_of_lt (Nat.lt_of_lt_of_le lt12 (T (T hs14 (T hs18 hs33)) hn91))) hrS; replace hrC := ho.rows (Nat.ne_of_lt (Nat.lt_of_lt_of_le lt12 (T (T hs14 (T hs18 (T hs33 hs94))) hn97))) hrC; have hs177 : w126.heap.size ≤ X176.heap.size := Nat.le_of_eq ho.size.symm; clear ho hk bO9_tt118 bO9_tt119; have bO9_tt118 := hv0; clear hv0; have bO9_tt119 := hv1; clear hv1; refine pT (.int .i64 0) ?_; refine pl_nil ?_; refine qw_then ?_
   refine cw_ret ?_
   refine qw_ret [.agg #[.slice (some ⟨B90, 0, none⟩) 24 24, .slice (some ⟨B96, 0, none⟩) 24 24], .int .i64 0] rfl ⟨⟨_, by kernel_rfl, res_ld (ld44 (bO9_tt118.1) (bO9_tt119.1))⟩, (by kernel_rfl), trivial⟩ ?_
   exact ⟨B90, B96, _, _, rfl, (T (T hs3 (T hs7 (T hs11 (T hs14 (T hs18 hs33))))) hn91), (T (T hs3 (T hs7 (T hs11 (T hs14 (T hs18 (T hs33 hs94)))))) hn97), (Nat.ne_of_lt (Nat.lt_of_lt_of_le lt95 hn97)), (by rw [← Swath.sure_part hok s lk, ← hyn]; exact hrS), (by rw [← Swath.can_part hok s lk, ← hyn]; exact hrC), hE⟩
set_option maxRecDepth 1000000 in
set_option maxHeartbeats 4000000 in
theorem rStrip_n {o : Orb} {s : Int × Int} {lk : Int} (w : World) (hv : Swath.shB o s lk = false) : Calls Try.prog 18 #[.agg #[.int .i64 o.p, .int .i64 o.f, .int .i64 o.lo, .int .i64 o.hi, .int .i64 o.nd, .int .i64 o.tn, .int .i64 o.sl], .agg #[.int .i64 s.1, .int .i64 s.2], .int .i64 lk] w (RetSN w) := by
 refine calls_cw 125 [(2, .int .i64 lk), (1, .agg #[.int .i64 s.1, .int .i64 s.2]), (0, .agg #[.int .i64 o.p, .int .i64 o.f, .int .i64 o.lo, .int .i64 o.hi, .int .i64 o.nd, .int .i64 o.tn, .int .i64 o.sl])] Try.func18 rfl Try.ntmps18 (by kernel_rfl) (by kernel_rfl) (fun L => ?_)
 have hE : Ext w w := Ext.refl w
 refine cw_seq ?_; refine cw_plain ?_
 refine pS (sn_new (us := #[.int .i64 o.p, .int .i64 o.f, .int .i64 o.lo, .int .i64 o.hi, .int .i64 o.nd, .int .i64 o.tn, .int .i64 o.sl]) (t := 24) (by kernel_rfl) ?_)
 intro O1 X2 hzO1 hyO1 hb hbx; have ⟨bO1_0, bO1_1, bO1_2, bO1_3, bO1_4, bO1_5, bO1_6⟩ := bx7 hbx; clear hbx
 replace hE := hE.trans hb; have hs3 := hb.size; clear hb; have lt4 := bO1_0.lt
 refine pS (sn_new (us := #[.int .i64 s.1, .int .i64 s.2]) (t := 26) (by kernel_rfl) ?_)
 intro O5 X6 hzO5 hyO5 hb hbx; have ⟨bO5_0, bO5_1⟩ := bx2 hbx; clear hbx
 replace hE := hE.trans hb; replace bO1_0 := BoxAt.ext hb bO1_0; replace bO1_1 := BoxAt.ext hb bO1_1; replace bO1_2 := BoxAt.ext hb bO1_2; replace bO1_3 := BoxAt.ext hb bO1_3; replace bO1_4 := BoxAt.ext hb bO1_4; replace bO1_5 := BoxAt.ext hb bO1_5; replace bO1_6 := BoxAt.ext hb bO1_6; have hs7 := hb.size; clear hb; have lt8 := bO5_0.lt
 refine pS (sn_new (us := #[.slice none 0 0, .slice none 0 0]) (t := 44) (by kernel_rfl) ?_)
 intro O9 X10 hzO9 hyO9 hb hbx; have ⟨bO9_0, bO9_1⟩ := bx2 hbx; clear hbx
 replace hE := hE.trans hb; replace bO1_0 := BoxAt.ext hb bO1_0; replace bO1_1 := BoxAt.ext hb bO1_1; replace bO1_2 := BoxAt.ext hb bO1_2; replace bO1_3 := BoxAt.ext hb bO1_3; replace bO1_4 := BoxAt.ext hb bO1_4; replace bO1_5 := BoxAt.ext hb bO1_5; replace bO1_6 := BoxAt.ext hb bO1_6; replace bO5_0 := BoxAt.ext hb bO5_0; replace bO5_1 := BoxAt.ext hb bO5_1; have hs11 := hb.size; clear hb; have lt12 := bO9_0.lt; refine pT (.int .i64 0) ?_; refine pl_nil ?_; refine qw_then ?_; refine cw_seq ?_; refine cw_seq ?_; have hX13 : Ext X10 X10 := Ext.refl _; refine cw_plain ?_
 refine pU (.agg #[.int .i64 o.p, .int .i64 o.f, .int .i64 o.lo, .int .i64 o.hi, .int .i64 o.nd, .int .i64 o.tn, .int .i64 o.sl]) (ex_load rfl (by kernel_rfl) (ld24 (bO1_0.1) (bO1_1.1) (bO1_2.1) (bO1_3.1) (bO1_4.1) (bO1_5.1) (bO1_6.1))) ?_
 refine pU (.agg #[.int .i64 s.1, .int .i64 s.2]) (ex_load rfl (by kernel_rfl) (ld26 (bO5_0.1) (bO5_1.1))) ?_
 refine pT (.int .i64 lk) ?_
 refine pS (sn_call (f := 23) (args := #[.agg #[.int .i64 o.p, .int .i64 o.f, .int .i64 o.lo, .int .i64 o.hi, .int .i64 o.nd, .int .i64 o.tn, .int .i64 o.sl], .agg #[.int .i64 s.1, .int .i64 s.2], .int .i64 lk]) (by kernel_rfl) ((rValid8_r (r := false) o s lk _ (hv)).mono ?_))
 rintro e w14 ⟨rfl, hb⟩
 replace hE := hE.trans hb; replace hX13 := hX13.trans hb; have hs15 := hb.size; clear hb
 refine ⟨_, rfl, ?_⟩
 refine pT (.bool true) ?_; refine pl_nil ?_; refine qw_then ?_
 refine cw_t (by kernel_rfl) ?_
 refine cw_seq ?_; refine cw_plain ?_; refine pT (.agg #[.slice none 0 0, .slice none 0 0]) ?_
 have bO1_t17 := (BoxAt.ext hX13 bO1_0)
 have bO1_t18 := (BoxAt.ext hX13 bO1_1)
 have bO1_t19 := (BoxAt.ext hX13 bO1_2)
 have bO1_t20 := (BoxAt.ext hX13 bO1_3)
 have bO1_t21 := (BoxAt.ext hX13 bO1_4)
 have bO1_t22 := (BoxAt.ext hX13 bO1_5)
 have bO1_t23 := (BoxAt.ext hX13 bO1_6)
 have bO5_t24 := (BoxAt.ext hX13 bO5_0)
 have bO5_t25 := (BoxAt.ext hX13 bO5_1)
 have bO9_t26 := (BoxAt.ext hX13 bO9_0)
 have bO9_t27 := (BoxAt.ext hX13 bO9_1)
 refine pP (sn_set2 (O := O9) (j := 0) (v := .slice none 0 0) (v' := .slice none 0 0) (ex_store (p := .pointer (some ⟨O9, 0, none⟩)) (v := .agg #[.slice none 0 0, .slice none 0 0]) rfl (by kernel_rfl) (by kernel_rfl) (st44 bO9_t26.1 bO9_t26.2 bO9_t27.1 bO9_t27.2)) bO9_t26 bO9_t27 ?_)
 intro X16 ho hv0 hv1 hk; replace hE := ho.ext hE (T (T hs3 hs7) (Nat.le_of_eq hzO9))
 have q9 := fun (j : Nat) (v : Value) (h : BoxAt _ O1 j v) => ho.box (Nat.ne_of_gt (Nat.lt_of_lt_of_le lt4 (T hs7 (Nat.le_of_eq hzO9)))) h
 replace bO1_t17 := q9 _ _ bO1_t17; replace bO1_t18 := q9 _ _ bO1_t18; replace bO1_t19 := q9 _ _ bO1_t19; replace bO1_t20 := q9 _ _ bO1_t20; replace bO1_t21 := q9 _ _ bO1_t21; replace bO1_t22 := q9 _ _ bO1_t22; replace bO1_t23 := q9 _ _ bO1_t23; clear q9
 have q9 := fun (j : Nat) (v : Value) (h : BoxAt _ O5 j v) => ho.box (Nat.ne_of_gt (Nat.lt_of_lt_of_le lt8 (Nat.le_of_eq hzO9))) h
 replace bO5_t24 := q9 _ _ bO5_t24; replace bO5_t25 := q9 _ _ bO5_t25; clear q9; have hs28 : w14.heap.size ≤ X16.heap.size := Nat.le_of_eq ho.size.symm; clear ho hk bO9_t26 bO9_t27; have bO9_t26 := hv0; clear hv0; have bO9_t27 := hv1; clear hv1; refine pT (.int .i64 80) ?_; refine pl_nil ?_; refine qw_then ?_
 refine cw_ret ?_
 refine qw_then_ret ?_
 refine qw_ret [.agg #[.slice none 0 0, .slice none 0 0], .int .i64 80] rfl ⟨⟨_, by kernel_rfl, res_ld (ld44 (bO9_t26.1) (bO9_t27.1))⟩, (by kernel_rfl), trivial⟩ ?_
 exact ⟨rfl, hE⟩

end Go.Proofs.Ytdjjkhefdalokaa

/- Cells in memory. -/
namespace Go.Proofs.Ytdjjkhefdalokaa
open Go.RowKit

/-- The cells as they lie in memory, one behind the other. -/
def cellVals (l : List (Nat × Nat)) : List Value := l.flatMap fun p => [.int .i64 p.1, .int .i64 p.2]
theorem cellVals_snoc (l : List (Nat × Nat)) (p : Nat × Nat) : cellVals (l ++ [p]) = cellVals l ++ [.int .i64 p.1, .int .i64 p.2] := by simp [cellVals]
theorem cell_two_new (w : World) (x y : Value) (t : TypeId) : ∀ j u, [x, y][j]? = some u → (w.alloc (.cells #[x, y] t)).cell? ((⟨w.heap.size, 0, none⟩ : Addr).add j) = some u := by
 intro j u hj
 rw [Addr.add_mid, Nat.zero_add]
 match j, hj with
 | 0, hj => simp at hj; subst hj; simp [go_sem]
 | 1, hj => simp at hj; subst hj; simp [go_sem]
 | _ + 2, hj => simp at hj

/-- The slice at a (n elements) reads as the list of cells. -/
def CellsAt (w : World) (a : Option Addr) (n : Nat) (cs : List (Nat × Nat)) : Prop :=
 cs.length = n ∧ (n = 0 ∨ ∃ b, a = some ⟨b, 0, none⟩ ∧ ∀ (i : Nat) (p : Nat × Nat), cs[i]? = some p → w.cell? ⟨b, i * 2, none⟩ = some (.int .i64 p.1) ∧ w.cell? ⟨b, i * 2 + 1, none⟩ = some (.int .i64 p.2))
theorem CellsAt.ext {w w' : World} {a : Option Addr} {n : Nat} {cs : List (Nat × Nat)} (h : CellsAt w a n cs) (hE : Ext w w') : CellsAt w' a n cs := by
 refine ⟨h.1, h.2.imp id fun ⟨b, ha, hc⟩ => ⟨b, ha, fun i p hp => ⟨hE.cell (hc i p hp).1, hE.cell (hc i p hp).2⟩⟩⟩
theorem CellsAt.nil (w : World) (a : Option Addr) : CellsAt w a 0 [] := ⟨rfl, .inl rfl⟩
theorem cellVals_at : ∀ {cs : List (Nat × Nat)} {i : Nat} {p : Nat × Nat}, cs[i]? = some p → (cellVals cs)[i * 2]? = some (.int .i64 p.1) ∧ (cellVals cs)[i * 2 + 1]? = some (.int .i64 p.2)
 | q :: cs, 0, p, h => by simp at h; subst h; simp [cellVals]
 | q :: cs, i + 1, p, h => by
  have ih := cellVals_at (cs := cs) (i := i) (p := p) (by simpa using h)
  have e : cellVals (q :: cs) = [.int .i64 q.1, .int .i64 q.2] ++ cellVals cs := by simp [cellVals]
  rw [e, show (i + 1) * 2 = 2 + i * 2 by omega, show 2 + i * 2 + 1 = 2 + (i * 2 + 1) by omega]
  rw [List.getElem?_append_right (by simp), List.getElem?_append_right (by simp)]
  simpa using ih
theorem CellsAt.own {w : World} {base : Nat} {v : Value} {cs : List (Nat × Nat)} {n : Nat} (hn : cs.length = n) (h : w.ownsRow base 57 2 v n (cellVals cs)) : ∃ a k, v = .slice a n k ∧ CellsAt w a n cs := by
  rcases h.2 with ⟨rfl, h0⟩ | ⟨g, cap, cur, rfl, _, _, _⟩
  · subst h0; exact ⟨none, 0, rfl, hn, .inl rfl⟩
  · refine ⟨some ⟨g, 0, none⟩, cap, rfl, hn, .inr ⟨g, rfl, fun i p hp => ?_⟩⟩
    have hi : i < cs.length := (List.getElem?_eq_some_iff.1 hp).1
    obtain ⟨e1, e2⟩ := cellVals_at hp
    rw [h.cellAt (i * 2) (by omega), h.cellAt (i * 2 + 1) (by omega)]
    exact ⟨e1, e2⟩

end Go.Proofs.Ytdjjkhefdalokaa

/- Contracts of the reference of package globe: ValidCell. -/
namespace Go.Proofs.Ytdjjkhefdalokaa
open Go.RowKit

theorem rValidCell_c (x y : Int) (w : World) :
  Calls Try.prog 85 #[.agg #[.int .i64 x, .int .i64 y]] w fun e w' => e = .returned (.bool (Globe.vcB x y)) ∧ Ext w w' := by
 go_enter Try.func85, Try.ntmps85
 go_wp2
 all_goals (go_ret; refine ⟨ret_bool ?_, by (repeat' (first | (with_reducible assumption) | (with_reducible exact Ext.refl _) | (with_reducible refine Ext.alloc ?_ _) | (with_reducible refine Ext.drew ?_) | (with_reducible refine Ext.drewN ?_ _) | (with_reducible refine Ext.setCell ?_ ?_ _) | (with_reducible refine Ext.trans ?_ (by assumption)) | go_size))⟩; first | (rw [Globe.vcB_f.2 (by omega)]; done) | (rw [Bool.eq_iff_iff, Globe.vcB_t]; first | (simp; omega) | (simp; done)))

end Go.Proofs.Ytdjjkhefdalokaa

/- Contracts of the reference of package globe: ValidCell, Valid, has, Cells, Count. -/
namespace Go.Proofs.Ytdjjkhefdalokaa
open Go.RowKit

theorem has_nil {l : List Int} {n : Nat} (hn : l.length = n) (h24 : n ≠ 24) : Globe.validL l = false := by
 rw [Bool.eq_false_iff]; intro h; exact h24 (by rw [← hn]; exact Globe.len_of_valid h)
theorem bad_row {l : List Int} {k : Nat} (hk : k < l.length) (h : Globe.rowOk (Globe.nth l k) = false) : Globe.validL l = false := by
 rw [Bool.eq_false_iff]; intro hv
 have := (Globe.validL_t.1 hv).2 _ (Globe.nth_mem hk)
 rw [← Globe.rowOk_t, h] at this
 cases this
theorem all_rows {l : List Int} (hl : l.length = 24) (h : ∀ j, j < 24 → Globe.rowOk (Globe.nth l j) = true) : Globe.validL l = true :=
 Globe.validL_t.2 ⟨hl, fun r hr => by
  obtain ⟨i, hi, rfl⟩ := Globe.mem_nth hr
  exact Globe.rowOk_t.1 (h i (by omega))⟩

set_option maxHeartbeats 2000000 in
theorem rValid_c {w0 : World} {a : Option Addr} {l : List Int} {n : Nat} (c : Nat) {v : Bool} (w : World) (h : AA w0 a l n v) (hE : Ext w0 w) :
    Calls Try.prog 60 #[.agg #[.slice a n c]] w fun e w' => e = .returned (.bool v) ∧ Ext w w' := by
  obtain ⟨h1, hn, hl, hv⟩ := h.ext hE
  clear hE h
  rcases Nat.eq_zero_or_pos n with h0 | h0
  · subst h0
    obtain rfl := List.length_eq_zero_iff.1 hn
    obtain rfl : v = false := by rw [← hv]; exact has_nil rfl (by simp)
    clear h1 hn hv hl
    go_enter Try.func60, Try.ntmps60
    go_wp2_with fail
    refine wp_loop_rounds 1 ?_
    rw [rounds_succ]
    go_wp2_with fail
    go_ret
    exact ⟨rfl, by (repeat' (first | (with_reducible assumption) | (with_reducible exact Ext.refl _) | (with_reducible refine Ext.alloc ?_ _) | (with_reducible refine Ext.drew ?_) | (with_reducible refine Ext.drewN ?_ _) | (with_reducible refine Ext.setCell ?_ ?_ _) | (with_reducible refine Ext.trans ?_ (by assumption)) | go_size))⟩
  · obtain ⟨b, off, rfl, hr⟩ : ∃ b off, a = some ⟨b, off, none⟩ ∧ ∀ i, i < n → w.cell? ⟨b, off + i, none⟩ = some (.int .i64 (Globe.nth l i)) := by
      rcases h1 with rfl | ⟨b, off, rfl, h⟩
      · simp at hn; omega
      · exact ⟨b, off, rfl, fun i hi => h i (by omega)⟩
    have HR := Lib.hid hr; have Hn := Lib.hid hn; have Hv := Lib.hid hv
    clear h1 hr hn hv
    go_enter Try.func60, Try.ntmps60
    go_wp2_with fail
    refine wp_name (fun V => Ext w V ∧ V.cell? ⟨w.heap.size, 0, none⟩ = some (.slice (some ⟨b, off, none⟩) n c)) ⟨by (repeat' (first | (with_reducible assumption) | (with_reducible exact Ext.refl _) | (with_reducible refine Ext.alloc ?_ _) | (with_reducible refine Ext.drew ?_) | (with_reducible refine Ext.drewN ?_ _) | (with_reducible refine Ext.setCell ?_ ?_ _) | (with_reducible refine Ext.trans ?_ (by assumption)) | go_size)), by simp [go_sem]⟩ ?_
    rintro V ⟨hV, k1⟩
    go_loopw [3] (fun p wr => ∃ k : Nat, k ≤ n ∧ k ≤ 25 ∧ p = .int .i64 k ∧ Hid (∀ j, j < k → Globe.rowOk (Globe.nth l j) = true) ∧ Ext V wr) (fun p _ => 25 - (intOf p).toNat)
    case atStart => exact ⟨0, by omega, by omega, rfl, fun j hj => by omega, Ext.refl _⟩
    case round =>
      obtain ⟨k, hk, hk25, rfl, Hp, hE⟩ := hrel
      replace k1 := hE.cell k1
      by_cases hlt : k < n
      · by_cases hl5 : k < 25
        · have d1 : wr.cell? ⟨b, off + k, none⟩ = some (.int .i64 (Globe.nth l k)) := hE.cell (hV.cell (HR.out k hlt))
          have kk0 : (0 : Int) ≤ (k : Int) := by omega
          have kk1 : (k : Int) < (n : Int) := by omega
          cases hq : Globe.rowOk (Globe.nth l k)
          · have hf : v = false := by rw [← Hv.out]; exact bad_row (by rw [Hn.out]; exact hlt) hq
            have Hf := Lib.hid hf; clear hf
            have hq' := Globe.rowOk_f.1 hq
            clear hq
            generalize Globe.nth l k = x at *
            by_cases hx : x < 0
            · clear hq'
              go_wp2_with fail
              go_ret
              exact ⟨ret_bool Hf.out.symm, by (repeat' (first | (with_reducible assumption) | (with_reducible exact Ext.refl _) | (with_reducible refine Ext.alloc ?_ _) | (with_reducible refine Ext.drew ?_) | (with_reducible refine Ext.drewN ?_ _) | (with_reducible refine Ext.setCell ?_ ?_ _) | (with_reducible refine Ext.trans ?_ (by assumption)) | go_size))⟩
            · have hx2 : 281474976710656 ≤ x := by omega
              clear hq'
              go_wp2_with fail
              go_ret
              exact ⟨ret_bool Hf.out.symm, by (repeat' (first | (with_reducible assumption) | (with_reducible exact Ext.refl _) | (with_reducible refine Ext.alloc ?_ _) | (with_reducible refine Ext.drew ?_) | (with_reducible refine Ext.drewN ?_ _) | (with_reducible refine Ext.setCell ?_ ?_ _) | (with_reducible refine Ext.trans ?_ (by assumption)) | go_size))⟩
          · have hq' := Globe.rowOk_t.1 hq
            have Hq := Lib.hid hq; clear hq
            obtain ⟨q1, q2⟩ := hq'
            have q3 : ¬ 281474976710656 ≤ Globe.nth l k := by omega
            have q4 : ¬ Globe.nth l k < 0 := by omega
            go_wp2_with fail
            go_roundw
            case rel => exact ⟨k + 1, by omega, by omega, by go_num, fun j hj => by
              rcases Nat.lt_or_ge j k with h | h
              · exact Hp.out j h
              · rw [show j = k by omega]; exact Hq.out, by (repeat' (first | (with_reducible assumption) | (with_reducible exact Ext.refl _) | (with_reducible refine Ext.alloc ?_ _) | (with_reducible refine Ext.drew ?_) | (with_reducible refine Ext.drewN ?_ _) | (with_reducible refine Ext.setCell ?_ ?_ _) | (with_reducible refine Ext.trans ?_ (by assumption)) | go_size))⟩
            case measure => simp [intOf]; omega
        · obtain rfl : k = 25 := by omega
          have hf : v = false := by rw [← Hv.out]; exact has_nil Hn.out (by omega)
          subst hf
          have hn24 : ((n : Int) == 24) = false := by simp; omega
          have hn24' : (n == 24) = false := by simp; omega
          have hn24'' : ¬ n = 24 := by omega
          go_wp2_with fail
          go_ret
          exact ⟨rfl, by (repeat' (first | (with_reducible assumption) | (with_reducible exact Ext.refl _) | (with_reducible refine Ext.alloc ?_ _) | (with_reducible refine Ext.drew ?_) | (with_reducible refine Ext.drewN ?_ _) | (with_reducible refine Ext.setCell ?_ ?_ _) | (with_reducible refine Ext.trans ?_ (by assumption)) | go_size))⟩
      · obtain rfl : k = n := by omega
        by_cases h24 : k = 24
        · subst h24
          have ht : v = true := by rw [← Hv.out]; exact all_rows Hn.out Hp.out
          subst ht
          go_wp2_with fail
          go_ret
          exact ⟨rfl, by (repeat' (first | (with_reducible assumption) | (with_reducible exact Ext.refl _) | (with_reducible refine Ext.alloc ?_ _) | (with_reducible refine Ext.drew ?_) | (with_reducible refine Ext.drewN ?_ _) | (with_reducible refine Ext.setCell ?_ ?_ _) | (with_reducible refine Ext.trans ?_ (by assumption)) | go_size))⟩
        · have hf : v = false := by rw [← Hv.out]; exact has_nil Hn.out h24
          subst hf
          have hn24 : ((k : Int) == 24) = false := by simp; omega
          have hn24' : (k == 24) = false := by simp; omega
          by_cases h25 : k < 25
          · go_wp2_with fail
            go_ret
            exact ⟨rfl, by (repeat' (first | (with_reducible assumption) | (with_reducible exact Ext.refl _) | (with_reducible refine Ext.alloc ?_ _) | (with_reducible refine Ext.drew ?_) | (with_reducible refine Ext.drewN ?_ _) | (with_reducible refine Ext.setCell ?_ ?_ _) | (with_reducible refine Ext.trans ?_ (by assumption)) | go_size))⟩
          · go_wp2_with fail
            go_ret
            exact ⟨rfl, by (repeat' (first | (with_reducible assumption) | (with_reducible exact Ext.refl _) | (with_reducible refine Ext.alloc ?_ _) | (with_reducible refine Ext.drew ?_) | (with_reducible refine Ext.drewN ?_ _) | (with_reducible refine Ext.setCell ?_ ?_ _) | (with_reducible refine Ext.trans ?_ (by assumption)) | go_size))⟩

/-- Whether a valid area has a cell. -/
theorem rhas_v {w0 : World} {b o : Nat} (c : Nat) {l : List Int} {x y : Nat} {r : Bool} (w : World) (h : VA w0 b o l) (hE : Ext w0 w) (hx : x < 48) (hy : y < 24) (hr : Globe.hasL l x y = r) :
    Calls Try.prog 91 #[.agg #[.slice (some ⟨b, o, none⟩) 24 c], .int .i64 x, .int .i64 y] w fun e w' => e = .returned (.bool r) ∧ Ext w w' := by
  replace h := h.ext hE; clear hE
  have d := h.cell hy
  have hbl := h.lt
  have hm := bit_mod2 (Globe.rowN l y) x
  have hge : (0 : Int) ≤ ((Globe.rowN l y : Nat) : Int) / 2 ^ x := by rw [div_pow_cast]; exact Int.natCast_nonneg _
  have ht : (((Globe.rowN l y : Nat) : Int) / 2 ^ x).tmod 2 = ((Globe.rowN l y : Nat) : Int) / 2 ^ x % 2 := Int.tmod_eq_emod_of_nonneg hge
  have hh : Globe.hasL l x y = (Globe.rowN l y).testBit x := rfl
  rw [hm] at ht
  have y0 : (0 : Int) ≤ (y : Int) := by omega
  have y1 : (y : Int) < 24 := by omega
  have x0 : (0 : Int) ≤ (x : Int) := by omega
  have x1 : (x : Int) < 48 := by omega
  rw [hr] at hh
  rw [← hh] at hm ht
  clear hh hr h
  generalize Globe.rowN l y = R at *
  cases r
  · rw [if_neg (by simp)] at hm ht
    go_enter Try.func91, Try.ntmps91
    go_wp2
    go_ret
    exact ⟨rfl, by (repeat' (first | (with_reducible assumption) | (with_reducible exact Ext.refl _) | (with_reducible refine Ext.alloc ?_ _) | (with_reducible refine Ext.drew ?_) | (with_reducible refine Ext.drewN ?_ _) | (with_reducible refine Ext.setCell ?_ ?_ _) | (with_reducible refine Ext.trans ?_ (by assumption)) | go_size))⟩
  · rw [if_pos rfl] at hm ht
    go_enter Try.func91, Try.ntmps91
    go_wp2
    go_ret
    exact ⟨rfl, by (repeat' (first | (with_reducible assumption) | (with_reducible exact Ext.refl _) | (with_reducible refine Ext.alloc ?_ _) | (with_reducible refine Ext.drew ?_) | (with_reducible refine Ext.drewN ?_ _) | (with_reducible refine Ext.setCell ?_ ?_ _) | (with_reducible refine Ext.trans ?_ (by assumption)) | go_size))⟩

/-- A list of cells. -/
def RetCells (w : World) (cs : List (Nat × Nat)) (e : Ending) (w' : World) : Prop := ∃ (a : Option Addr) (k : Nat), e = .returned (.slice a cs.length k) ∧ CellsAt w' a cs.length cs ∧ (∀ ad, a = some ad → w.heap.size ≤ ad.block) ∧ Ext w w'
/-- The cells of a row below a column. -/
def rowTo (l : List Int) (y x : Nat) : List (Nat × Nat) := ((List.range x).filter fun i => Globe.hasL l i y).map fun i => (i, y)
theorem rowTo_zero (l : List Int) (y : Nat) : rowTo l y 0 = [] := by simp [rowTo]
theorem rowTo_yes {l : List Int} {y x : Nat} (h : Globe.hasL l x y = true) : rowTo l y (x + 1) = rowTo l y x ++ [(x, y)] := by
 unfold rowTo
 rw [List.range_succ, List.filter_append, List.map_append]
 simp [h]
theorem rowTo_no {l : List Int} {y x : Nat} (h : Globe.hasL l x y = false) : rowTo l y (x + 1) = rowTo l y x := by
 unfold rowTo
 rw [List.range_succ, List.filter_append, List.map_append]
 simp [h]
theorem rowTo_all (l : List Int) (y : Nat) : rowTo l y 48 = Globe.rowCells l y := rfl
theorem rowTo_len (l : List Int) (y x : Nat) : (rowTo l y x).length ≤ x := by
 unfold rowTo
 rw [List.length_map]
 exact T (List.length_filter_le _ _) (by simp)

set_option maxHeartbeats 2000000 in
theorem rCells_v {w0 : World} {b o : Nat} (c : Nat) {l : List Int} (w : World) (h : VA w0 b o l) (hE : Ext w0 w) :
    Calls Try.prog 61 #[.agg #[.slice (some ⟨b, o, none⟩) 24 c]] w (RetCells w (Globe.cellsTo l 24)) := by
  replace h := h.ext hE; clear hE
  obtain ⟨i0, hi, hz0, hz1, hz2⟩ := info_parts (P := Try.prog) (e := 57) (z := .agg #[.int .i64 0, .int .i64 0]) (size := 2) (bytes := 16) (by kernel_rfl)
  go_enter Try.func61, Try.ntmps61
  go_wp2_with fail
  refine (rValid_c c _ h.aa (by (repeat' (first | (with_reducible assumption) | (with_reducible exact Ext.refl _) | (with_reducible refine Ext.alloc ?_ _) | (with_reducible refine Ext.drew ?_) | (with_reducible refine Ext.drewN ?_ _) | (with_reducible refine Ext.setCell ?_ ?_ _) | (with_reducible refine Ext.trans ?_ (by assumption)) | go_size)))).mono ?_
  rintro e w1 ⟨rfl, hb⟩
  have hc := hb.cellE; have hf := hb.frozenE; have hz := hb.size; have ha := alloc_keeps w1; (try simp only [World.size_alloc] at hc hf hz); (try simp only [World.size_setCell] at hc hf hz); (try simp only [World.size_drew] at hc hf hz)
  go_wp2_with fail
  refine wp_name (fun V => Ext w V ∧ V.cell? ⟨w.heap.size, 0, none⟩ = some (.slice (some ⟨b, o, none⟩) 24 c)) ⟨by (repeat' (first | (with_reducible assumption) | (with_reducible exact Ext.refl _) | (with_reducible refine Ext.alloc ?_ _) | (with_reducible refine Ext.drew ?_) | (with_reducible refine Ext.drewN ?_ _) | (with_reducible refine Ext.setCell ?_ ?_ _) | (with_reducible refine Ext.trans ?_ (by assumption)) | go_size)), hb.cell (by simp [go_sem])⟩ ?_
  clear hb hc hf hz ha
  rintro V ⟨hE, k1⟩
  replace h := h.ext hE
  have lk := World.block_lt_of_cell? V _ k1
  have H := Lib.hid h; clear h
  have Hi := Lib.hid (And.intro hi (And.intro hz0 (And.intro hz1 hz2))); clear hi hz0 hz1 hz2
  go_loopw [3, 4] (fun r p wr => ∃ y : Nat, y ≤ 24 ∧ p = .int .i64 y ∧ wr.ownsRow V.heap.size 57 2 r (Globe.cellsTo l y).length (cellVals (Globe.cellsTo l y)) ∧ Ext V wr) (fun _ p _ => 24 - (intOf p).toNat)
  case atStart => exact ⟨0, by omega, rfl, World.ownsRow_nil _ _ _ _, Ext.refl _⟩
  case round =>
    obtain ⟨y, hy, rfl, hrow, e6⟩ := hrel
    have Hrow := Lib.hid hrow; clear hrow
    by_cases hlt : y < 24
    · have y1 : (y : Int) < 24 := by omega
      have y0 : (0 : Int) ≤ (y : Int) := by omega
      go_wp2_with fail
      go_loopw [3, 5] (fun r p wr => ∃ x : Nat, x ≤ 48 ∧ p = .int .i64 x ∧ wr.ownsRow V.heap.size 57 2 r (Globe.cellsTo l y ++ rowTo l y x).length (cellVals (Globe.cellsTo l y ++ rowTo l y x)) ∧ Ext V wr) (fun _ p _ => 48 - (intOf p).toNat)
      case atStart => exact ⟨0, by omega, rfl, by rw [rowTo_zero, List.append_nil]; exact Hrow.out, e6⟩
      case round =>
        clear e6
        obtain ⟨x, hx, rfl, hrow, e6⟩ := hrel
        have Hrow := Lib.hid hrow; clear hrow
        by_cases hlx : x < 48
        · have x1 : (x : Int) < 48 := by omega
          have x0 : (0 : Int) ≤ (x : Int) := by omega
          have k2 := e6.cell k1
          cases hh : Globe.hasL l x y
          · have HH := Lib.hid hh; clear hh
            go_wp2_with fail
            refine (rhas_v c _ H.out e6 hlx hlt HH.out).mono ?_
            rintro e w1 ⟨rfl, hb⟩
            go_wp2_with fail
            go_roundw
            case rel => exact ⟨x + 1, by omega, by go_num, by rw [rowTo_no HH.out]; exact own_ext Hrow.out hb, e6.trans hb⟩
            case measure => simp [intOf]; omega
          · have HH := Lib.hid hh; clear hh
            go_wp2_with fail
            refine (rhas_v c _ H.out e6 hlx hlt HH.out).mono ?_
            rintro e w1 ⟨rfl, hb⟩
            have hlen : (Globe.cellsTo l y ++ rowTo l y x).length ≤ 1152 := by
              have e1 := Globe.cellsTo_len l y
              have e2 := rowTo_len l y x
              rw [List.length_append]; omega
            have hs6 := (e6.trans hb).size
            go_wp2_with (at_builtin; refine wpList_append_own _ rfl _ _ 92 rfl V.heap.size 57 i0 (.agg #[.int .i64 0, .int .i64 0]) 2 16 Try.underlying92 Hi.out.1 Hi.out.2.1 Hi.out.2.2.1 Hi.out.2.2.2 rfl (by decide) _ _ _ rfl ((own_ext Hrow.out hb).alloc _) ⟨w1.heap.size, 0, none⟩ 1 1 [.int .i64 x, .int .i64 y] rfl rfl (cell_two_new _ _ _ _) (by simp [Value.oneCell']) (by unfold maxLen; omega) (by omega) (by simp; omega) ?_; intro v' w3 hown' hg3 hnil3; go_frame)
            have hE3 := Ext.own (Ext.alloc (e6.trans hb) _) ((own_ext Hrow.out hb).alloc _) hg3
            go_roundw
            case rel =>
              refine ⟨x + 1, by omega, by go_num, ?_, hE3⟩
              rw [rowTo_yes HH.out, ← List.append_assoc, cellVals_snoc, List.length_append]
              exact hown'
            case measure => simp [intOf]; omega
        · obtain rfl : x = 48 := by omega
          go_wp2_with fail
          go_roundw
          case rel => exact ⟨y + 1, by omega, by go_num, by rw [Globe.cellsTo_succ, ← rowTo_all]; exact Hrow.out, e6⟩
          case measure => simp [intOf]; omega
    · obtain rfl : y = 24 := by omega
      go_wp2_with fail
      go_ret
      obtain ⟨a, k, rfl, hc2⟩ := CellsAt.own rfl Hrow.out
      exact ⟨a, k, rfl, hc2, fun ad e => by subst e; exact T hE.size (Hrow.out.lt ad.block rfl).1, by (repeat' (first | (with_reducible assumption) | (with_reducible exact Ext.refl _) | (with_reducible refine Ext.alloc ?_ _) | (with_reducible refine Ext.drew ?_) | (with_reducible refine Ext.drewN ?_ _) | (with_reducible refine Ext.setCell ?_ ?_ _) | (with_reducible refine Ext.trans ?_ (by assumption)) | go_size))⟩
theorem rCells_c {w0 : World} {a : Option Addr} {l : List Int} {n : Nat} (c : Nat) {v : Bool} (w : World) (h : AA w0 a l n v) (hE : Ext w0 w) :
    Calls Try.prog 61 #[.agg #[.slice a n c]] w (RetCells w (Globe.cellsL l)) := by
  replace h := h.ext hE
  unfold Globe.cellsL
  rw [h.2.2.2]
  cases v
  · have H := Lib.hid h; clear h hE
    go_enter Try.func61, Try.ntmps61
    go_wp2_with fail
    refine (rValid_c c _ H.out (by (repeat' (first | (with_reducible assumption) | (with_reducible exact Ext.refl _) | (with_reducible refine Ext.alloc ?_ _) | (with_reducible refine Ext.drew ?_) | (with_reducible refine Ext.drewN ?_ _) | (with_reducible refine Ext.setCell ?_ ?_ _) | (with_reducible refine Ext.trans ?_ (by assumption)) | go_size)))).mono ?_
    rintro e w1 ⟨rfl, hb⟩
    go_wp2_with fail
    go_ret
    exact ⟨none, 0, rfl, CellsAt.nil _ _, fun ad e => (by cases e), by (repeat' (first | (with_reducible assumption) | (with_reducible exact Ext.refl _) | (with_reducible refine Ext.alloc ?_ _) | (with_reducible refine Ext.drew ?_) | (with_reducible refine Ext.drewN ?_ _) | (with_reducible refine Ext.setCell ?_ ?_ _) | (with_reducible refine Ext.trans ?_ (by assumption)) | go_size))⟩
  · obtain ⟨b, o, rfl, rfl, r⟩ := h.va
    exact rCells_v c w r (Ext.refl _)
theorem rCount_c {w0 : World} {a : Option Addr} {l : List Int} {n : Nat} (c : Nat) {v : Bool} (w : World) (h : AA w0 a l n v) (hE : Ext w0 w) :
  Calls Try.prog 90 #[.agg #[.slice a n c]] w fun e w' => e = .returned (.int .i64 (Globe.countL l : Nat)) ∧ Ext w w' := by
 have H := Lib.hid (h.ext hE); clear h hE
 go_enter Try.func90, Try.ntmps90
 go_wp2_with fail
 refine (rCells_c c _ H.out (by (repeat' (first | (with_reducible assumption) | (with_reducible exact Ext.refl _) | (with_reducible refine Ext.alloc ?_ _) | (with_reducible refine Ext.drew ?_) | (with_reducible refine Ext.drewN ?_ _) | (with_reducible refine Ext.setCell ?_ ?_ _) | (with_reducible refine Ext.trans ?_ (by assumption)) | go_size)))).mono ?_
 rintro e w1 ⟨a1, k, rfl, -, -, hb⟩
 go_wp2_with fail
 go_ret
 exact ⟨rfl, by (repeat' (first | (with_reducible assumption) | (with_reducible exact Ext.refl _) | (with_reducible refine Ext.alloc ?_ _) | (with_reducible refine Ext.drew ?_) | (with_reducible refine Ext.drewN ?_ _) | (with_reducible refine Ext.setCell ?_ ?_ _) | (with_reducible refine Ext.trans ?_ (by assumption)) | go_size))⟩

end Go.Proofs.Ytdjjkhefdalokaa

/- The cells of an area are ascending; the area of them, one after the other. Plain mathematics. -/
namespace Go.Proofs.Ytdjjkhefdalokaa
namespace Globe

def before (p q : Nat × Nat) : Prop := p.2 < q.2 ∨ (p.2 = q.2 ∧ p.1 < q.1)
/-- The area of some cells, one after the other. -/
def outTo (cs : List (Nat × Nat)) : List Int := cs.foldl (fun l p => putL l p.1 p.2) zeroL
theorem outTo_nil : outTo [] = zeroL := rfl
theorem outTo_snoc (cs : List (Nat × Nat)) (p : Nat × Nat) : outTo (cs ++ [p]) = putL (outTo cs) p.1 p.2 := by simp [outTo]
theorem outTo_spec : ∀ n (cs : List (Nat × Nat)), cs.length = n → (∀ p ∈ cs, p.1 < 48 ∧ p.2 < 24) → validL (outTo cs) = true ∧ ∀ x y, hasL (outTo cs) x y = decide ((x, y) ∈ cs)
  | 0, cs, hn, _ => by
    obtain rfl := List.length_eq_zero_iff.1 hn
    exact ⟨valid_zero, fun x y => by rw [outTo_nil, has_zero]; simp⟩
  | n + 1, cs, hn, h => by
    have hne : cs ≠ [] := by intro e; subst e; simp at hn
    obtain ⟨ds, p, rfl⟩ : ∃ ds p, cs = ds ++ [p] := ⟨_, _, (List.dropLast_concat_getLast hne).symm⟩
    have ih := outTo_spec n ds (by simpa using hn) (fun q hq => h q (by simp [hq]))
    have hp := h p (by simp)
    rw [outTo_snoc]
    refine ⟨valid_put ih.1 hp.1, fun x y => ?_⟩
    rw [has_put (by rw [len_of_valid ih.1]; exact hp.2), ih.2, Bool.eq_iff_iff]
    simp only [Bool.or_eq_true, decide_eq_true_eq, Bool.and_eq_true, List.mem_append, List.mem_singleton]
    constructor
    · rintro (h | ⟨rfl, rfl⟩)
      · exact .inl h
      · exact .inr rfl
    · rintro (h | h)
      · exact .inl h
      · exact .inr ⟨(congrArg Prod.fst h).symm, (congrArg Prod.snd h).symm⟩
end Globe
end Go.Proofs.Ytdjjkhefdalokaa

/- Contracts of the reference of package globe, in chapters other than 05: joined, Meet, Less, Contains. -/
namespace Go.Proofs.Ytdjjkhefdalokaa
open Go.RowKit
open Globe (outTo outTo_snoc outTo_nil outTo_spec)

theorem grown_ext {V w1 w2 : World} {B : Nat} (hg : V.grownBy w1 (some B)) (hE : Ext w1 w2) : V.grownBy w2 (some B) :=
 ⟨hE.os.trans hg.os, hE.tape.trans hg.tape, hE.output.trans hg.output, T hg.size hE.size, fun k hk hne => (Below.block hE k (Nat.lt_of_lt_of_le hk hg.size)).trans (hg.block k hk hne)⟩
theorem modN_nat (n : Int) (m : Nat) (h : n = (m : Int)) : modN n = m % 48 := by subst h; unfold modN; omega
/-- put, where the row is any number that stands for y. -/
theorem put_r {B : Nat} {pts : List (Nat × Nat)} {Y : Nat} (c : Nat) (x y : Int) (w : World) (h : RowsAt w B (outTo pts)) (hp : ∀ p ∈ pts, p.1 < 48 ∧ p.2 < 24) (e : y = (Y : Int)) (hy : Y < 24) :
  Calls Try.prog 40 #[.agg #[.slice (some ⟨B, 0, none⟩) 24 c], .int .i64 x, .int .i64 y] w fun e w' => (∃ v, e = .returned v) ∧ RowsAt w' B (outTo (pts ++ [(modN x, Y)])) ∧ w.grownBy w' (some B) := by
 subst e
 rw [outTo_snoc]
 exact put_c B c (outTo pts) x Y w h (outTo_spec _ _ rfl hp).1 hy
/-- The cells of the first rows for which f says so. -/
def rowSel (f : Nat → Nat → Bool) (y x : Nat) : List (Nat × Nat) := ((List.range x).filter fun i => f i y).map fun i => (i, y)
def selTo (f : Nat → Nat → Bool) (y : Nat) : List (Nat × Nat) := (List.range y).flatMap fun j => rowSel f j 48
theorem rowSel_zero (f : Nat → Nat → Bool) (y : Nat) : rowSel f y 0 = [] := by simp [rowSel]
theorem rowSel_yes {f : Nat → Nat → Bool} {y x : Nat} (h : f x y = true) : rowSel f y (x + 1) = rowSel f y x ++ [(x, y)] := by
 unfold rowSel; rw [List.range_succ, List.filter_append, List.map_append]; simp [h]
theorem rowSel_no {f : Nat → Nat → Bool} {y x : Nat} (h : f x y = false) : rowSel f y (x + 1) = rowSel f y x := by
 unfold rowSel; rw [List.range_succ, List.filter_append, List.map_append]; simp [h]
theorem selTo_succ (f : Nat → Nat → Bool) (y : Nat) : selTo f (y + 1) = selTo f y ++ rowSel f y 48 := by simp [selTo, List.range_succ]
theorem mem_rowSel {f : Nat → Nat → Bool} {y x : Nat} {p : Nat × Nat} : p ∈ rowSel f y x ↔ p.1 < x ∧ p.2 = y ∧ f p.1 y = true := by
 simp only [rowSel, List.mem_map, List.mem_filter, List.mem_range]
 constructor
 · rintro ⟨i, ⟨h1, h2⟩, rfl⟩; exact ⟨h1, rfl, h2⟩
 · rintro ⟨h1, h2, h3⟩; exact ⟨p.1, ⟨h1, h3⟩, by rw [← h2]⟩
theorem mem_selTo {f : Nat → Nat → Bool} {y : Nat} {p : Nat × Nat} : p ∈ selTo f y ↔ p.1 < 48 ∧ p.2 < y ∧ f p.1 p.2 = true := by
 simp only [selTo, List.mem_flatMap, List.mem_range, mem_rowSel]
 constructor
 · rintro ⟨j, hj, h1, rfl, h3⟩; exact ⟨h1, hj, h3⟩
 · rintro ⟨h1, h2, h3⟩; exact ⟨p.2, h2, h1, rfl, h3⟩
theorem sel_in {f : Nat → Nat → Bool} {y x : Nat} (hy : y < 24) (hx : x ≤ 48) : ∀ p ∈ selTo f y ++ rowSel f y x, p.1 < 48 ∧ p.2 < 24 := by
 intro p hp
 rcases List.mem_append.1 hp with hp | hp
 · obtain ⟨h1, h2, _⟩ := mem_selTo.1 hp; omega
 · obtain ⟨h1, h2, _⟩ := mem_rowSel.1 hp; omega
theorem sel_all {f : Nat → Nat → Bool} : ∀ p ∈ selTo f 24, p.1 < 48 ∧ p.2 < 24 := fun p hp => by obtain ⟨h1, h2, _⟩ := mem_selTo.1 hp; omega
theorem out_sel {f : Nat → Nat → Bool} {L : List Int} (hL : Globe.validL L = true) (h : ∀ x y, x < 48 → y < 24 → Globe.hasL L x y = f x y) : outTo (selTo f 24) = L := by
 have hs := outTo_spec _ _ rfl (sel_all (f := f))
 refine Globe.ext_has hs.1 hL fun x y hx hy => ?_
 rw [hs.2, h x y hx hy, Bool.eq_iff_iff, decide_eq_true_eq, mem_selTo]
 exact ⟨fun h => h.2.2, fun h => ⟨hx, hy, h⟩⟩
/-- What the table says. -/
def tb (t0 t1 t2 t3 a b : Bool) : Bool := match a, b with
 | false, false => t0
 | false, true => t1
 | true, false => t2
 | true, true => t3

set_option maxHeartbeats 4000000 in
theorem joined_v {w1 w2 : World} {b1 o1 b2 o2 : Nat} (c1 c2 : Nat) {l1 l2 : List Int} (t0 t1 t2 t3 : Bool) (w : World) (h1 : VA w1 b1 o1 l1) (e1 : Ext w1 w) (h2 : VA w2 b2 o2 l2) (e2 : Ext w2 w) :
    Calls Try.prog 103 #[.agg #[.slice (some ⟨b1, o1, none⟩) 24 c1], .agg #[.slice (some ⟨b2, o2, none⟩) 24 c2], .agg #[.bool t0, .bool t1, .bool t2, .bool t3]] w (RetV w (outTo (selTo (fun x y => tb t0 t1 t2 t3 (Globe.hasL l1 x y) (Globe.hasL l2 x y)) 24))) := by
  have H1 := Lib.hid (h1.ext e1); have H2 := Lib.hid (h2.ext e2)
  clear h1 h2 e1 e2
  obtain ⟨f, hf⟩ : ∃ f, f = (fun x y => tb t0 t1 t2 t3 (Globe.hasL l1 x y) (Globe.hasL l2 x y)) := ⟨_, rfl⟩
  rw [← hf]
  have HF := Lib.hid hf; clear hf
  go_enter Try.func103, Try.ntmps103
  go_wp2_with (first | (go_at_call 60; refine (rValid_c _ _ (by first | exact H1.out.aa | exact H2.out.aa) (by (repeat' (first | (with_reducible assumption) | (with_reducible exact Ext.refl _) | (with_reducible refine Ext.alloc ?_ _) | (with_reducible refine Ext.drew ?_) | (with_reducible refine Ext.drewN ?_ _) | (with_reducible refine Ext.setCell ?_ ?_ _) | (with_reducible refine Ext.trans ?_ (by assumption)) | go_size)))).mono ?_; rintro e w4 ⟨rfl, hb4⟩; have hc4 := hb4.cellE; have hf4 := hb4.frozenE; have hz4 := hb4.size; have ha4 := alloc_keeps w4; (try simp only [World.size_alloc] at hc4 hf4 hz4); (try simp only [World.size_setCell] at hc4 hf4 hz4); (try simp only [World.size_drew] at hc4 hf4 hz4)) | (go_at_call 38; refine (rEmpty_c _).mono ?_; rintro e w3 ⟨B, rfl, hB, hr, hb3⟩; have hc3 := hb3.cellE; have hf3 := hb3.frozenE; have hz3 := hb3.size; have ha3 := alloc_keeps w3; (try simp only [World.size_alloc] at hc3 hf3 hz3); (try simp only [World.size_setCell] at hc3 hf3 hz3); (try simp only [World.size_drew] at hc3 hf3 hz3)))
  obtain ⟨O, hO⟩ : ∃ O, O = w3.heap.size := ⟨_, rfl⟩
  rw [← hO]
  have hwB : w.heap.size + 1 + 1 + 1 < B := by omega
  have hBO : B < O := by have := hr.lt; omega
  refine wp_name (fun V => Ext w V ∧ V.cell? ⟨w.heap.size, 0, none⟩ = some (.slice (some ⟨b1, o1, none⟩) 24 c1) ∧ V.cell? ⟨w.heap.size + 1, 0, none⟩ = some (.slice (some ⟨b2, o2, none⟩) 24 c2) ∧ V.cell? ⟨w.heap.size + 1 + 1, 0, none⟩ = some (.bool t0) ∧ V.cell? ⟨w.heap.size + 1 + 1, 1, none⟩ = some (.bool t1) ∧ V.cell? ⟨w.heap.size + 1 + 1, 2, none⟩ = some (.bool t2) ∧ V.cell? ⟨w.heap.size + 1 + 1, 3, none⟩ = some (.bool t3) ∧ BoxAt V (w.heap.size + 1 + 1 + 1) 0 (.slice none 0 0) ∧ V.cell? ⟨O, 0, none⟩ = some (.slice (some ⟨B, 0, none⟩) 24 24) ∧ RowsAt V B (outTo (selTo f 0))) ⟨by (repeat' (first | (with_reducible assumption) | (with_reducible exact Ext.refl _) | (with_reducible refine Ext.alloc ?_ _) | (with_reducible refine Ext.drew ?_) | (with_reducible refine Ext.drewN ?_ _) | (with_reducible refine Ext.setCell ?_ ?_ _) | (with_reducible refine Ext.trans ?_ (by assumption)) | go_size)), ?_, ?_, ?_, ?_, ?_, ?_, ?_, by rw [hO]; simp [go_sem], hr.ext (by (repeat' (first | (with_reducible assumption) | (with_reducible exact Ext.refl _) | (with_reducible refine Ext.alloc ?_ _) | (with_reducible refine Ext.drew ?_) | (with_reducible refine Ext.drewN ?_ _) | (with_reducible refine Ext.setCell ?_ ?_ _) | (with_reducible refine Ext.trans ?_ (by assumption)) | go_size)))⟩ ?_
  · (repeat' (first | (with_reducible assumption) | (simp [go_sem]; done) | (with_reducible refine Ext.cell (Ext.alloc (Ext.refl _) _) ?_) | (with_reducible refine Ext.cell (by with_reducible assumption) ?_)))
  · (repeat' (first | (with_reducible assumption) | (simp [go_sem]; done) | (with_reducible refine Ext.cell (Ext.alloc (Ext.refl _) _) ?_) | (with_reducible refine Ext.cell (by with_reducible assumption) ?_)))
  · (repeat' (first | (with_reducible assumption) | (simp [go_sem]; done) | (with_reducible refine Ext.cell (Ext.alloc (Ext.refl _) _) ?_) | (with_reducible refine Ext.cell (by with_reducible assumption) ?_)))
  · (repeat' (first | (with_reducible assumption) | (simp [go_sem]; done) | (with_reducible refine Ext.cell (Ext.alloc (Ext.refl _) _) ?_) | (with_reducible refine Ext.cell (by with_reducible assumption) ?_)))
  · (repeat' (first | (with_reducible assumption) | (simp [go_sem]; done) | (with_reducible refine Ext.cell (Ext.alloc (Ext.refl _) _) ?_) | (with_reducible refine Ext.cell (by with_reducible assumption) ?_)))
  · (repeat' (first | (with_reducible assumption) | (simp [go_sem]; done) | (with_reducible refine Ext.cell (Ext.alloc (Ext.refl _) _) ?_) | (with_reducible refine Ext.cell (by with_reducible assumption) ?_)))
  · (repeat' (first | (with_reducible assumption) | (exact ⟨by simp [go_sem], by simp [go_sem]⟩) | (with_reducible refine BoxAt.ext (Ext.alloc (Ext.refl _) _) ?_) | (with_reducible refine BoxAt.ext (by with_reducible assumption) ?_)))
  clear hO hB hr hb3 hc3 hf3 hz3 ha3 hb4 hc4 hf4 hz4 ha4; clear hb4 hc4 hf4 hz4 ha4
  rintro V ⟨hE, cA, cB, cT0, cT1, cT2, cT3, b6, cO, hr⟩
  have lO : O < V.heap.size := World.block_lt_of_cell? V _ cO
  have HV1 := Lib.hid (H1.out.ext hE); have HV2 := Lib.hid (H2.out.ext hE)
  have lb1 := HV1.out.lt; have lb2 := HV2.out.lt
  have nb1 : b1 < w.heap.size := H1.out.lt
  have nb2 : b2 < w.heap.size := H2.out.lt
  go_loopw [9] (fun p wr => ∃ y : Nat, y ≤ 24 ∧ p = .int .i64 y ∧ RowsAt wr B (outTo (selTo f y)) ∧ V.grownBy wr (some B)) (fun p _ => 24 - (intOf p).toNat)
  case atStart => exact ⟨0, by omega, rfl, hr, grown_refl _ _⟩
  case round =>
    clear hr
    obtain ⟨y, hy, rfl, hr, hg⟩ := hrel
    have Hr := Lib.hid hr; clear hr
    by_cases hlt : y < 24
    · have y1 : (y : Int) < 24 := by omega
      go_wp2_with fail
      go_loopw [10] (fun p wr => ∃ x : Nat, x ≤ 48 ∧ p = .int .i64 x ∧ RowsAt wr B (outTo (selTo f y ++ rowSel f y x)) ∧ V.grownBy wr (some B)) (fun p _ => 48 - (intOf p).toNat)
      case atStart => exact ⟨0, by omega, rfl, by rw [rowSel_zero, List.append_nil]; exact Hr.out, hg⟩
      case round =>
        clear hg
        obtain ⟨x, hx, rfl, hr, hg⟩ := hrel
        have Hr := Lib.hid hr; clear hr
        by_cases hlx : x < 48
        · have x1 : (x : Int) < 48 := by omega
          have hsz := hg.size
          have dA := grown_cell hg cA (by show w.heap.size ≠ B; omega)
          have dB := grown_cell hg cB (by show w.heap.size + 1 ≠ B; omega)
          have v1 : VA wr b1 o1 l1 := ⟨fun i hi => grown_cell hg (HV1.out.1 i hi) (by show b1 ≠ B; omega), HV1.out.2⟩
          have v2 : VA wr b2 o2 l2 := ⟨fun i hi => grown_cell hg (HV2.out.1 i hi) (by show b2 ≠ B; omega), HV2.out.2⟩
          have dT0 := grown_cell hg cT0 (by show w.heap.size + 1 + 1 ≠ B; omega)
          have dT1 := grown_cell hg cT1 (by show w.heap.size + 1 + 1 ≠ B; omega)
          have dT2 := grown_cell hg cT2 (by show w.heap.size + 1 + 1 ≠ B; omega)
          have dT3 := grown_cell hg cT3 (by show w.heap.size + 1 + 1 ≠ B; omega)
          have dO := grown_cell hg cO (by show O ≠ B; omega)
          have HW1 := Lib.hid v1; have HW2 := Lib.hid v2; clear v1 v2
          have lO2 : O < wr.heap.size := World.block_lt_of_cell? wr _ dO
          have hfx : f x y = tb t0 t1 t2 t3 (Globe.hasL l1 x y) (Globe.hasL l2 x y) := by rw [HF.out]
          have hin := sel_in (f := f) (y := y) (x := x) hlt hx
          have Hin := Lib.hid hin; clear hin
          obtain ⟨ha, hha⟩ : ∃ r, Globe.hasL l1 x y = r := ⟨_, rfl⟩
          obtain ⟨hb, hhb⟩ : ∃ r, Globe.hasL l2 x y = r := ⟨_, rfl⟩
          rw [hha, hhb] at hfx
          have HHA := Lib.hid hha; have HHB := Lib.hid hhb; clear hha hhb
          obtain ⟨tv, htv⟩ : ∃ r, tb t0 t1 t2 t3 ha hb = r := ⟨_, rfl⟩
          rw [htv] at hfx
          have HFX := Lib.hid hfx; clear hfx
          cases ha <;> cases hb
          all_goals
            dsimp only [tb] at htv
            subst htv
            go_wp2_with fail
            refine (rhas_v c1 _ HW1.out (Ext.refl _) hlx hlt HHA.out).mono ?_
            rintro e w4 ⟨rfl, hb4⟩
            have hc4 := hb4.cellE; have hf4 := hb4.frozenE; have hz4 := hb4.size; have ha4 := alloc_keeps w4; (try simp only [World.size_alloc] at hc4 hf4 hz4); (try simp only [World.size_setCell] at hc4 hf4 hz4); (try simp only [World.size_drew] at hc4 hf4 hz4)
            go_wp2_with fail
            refine (rhas_v c2 _ HW2.out hb4 hlx hlt HHB.out).mono ?_
            rintro e w5 ⟨rfl, hb5⟩
            have hx5 := hb4.trans hb5
            have dT0' := hx5.cell dT0; have dT1' := hx5.cell dT1; have dT2' := hx5.cell dT2; have dT3' := hx5.cell dT3; have dO' := hx5.cell dO
            clear hc4 hf4 hz4 ha4 dT0 dT1 dT2 dT3 dO dA dB
            have hg5 := grown_ext hg hx5
            have Hr5 := Lib.hid (Hr.out.ext hx5)
            obtain ⟨fv, hfv⟩ : ∃ r, f x y = r := ⟨_, rfl⟩
            have e := HFX.out
            rw [hfv] at e
            have HFV := Lib.hid hfv
            clear hfv HFX HF
            subst e
            cases fv
            · go_wp2_with fail
              go_roundw
              case rel => exact ⟨x + 1, by omega, by go_num, by rw [rowSel_no HFV.out]; exact Hr5.out, hg5⟩
              case measure => simp [intOf]; omega
            · go_wp2_with fail
              refine (put_r 24 _ _ _ Hr5.out Hin.out (Y := y) rfl hlt).mono ?_
              rintro e w6 ⟨⟨v, rfl⟩, hr2, hg2⟩
              rw [modN_nat _ x rfl, Nat.mod_eq_of_lt hlx, List.append_assoc, ← rowSel_yes HFV.out] at hr2
              have Hr2 := Lib.hid hr2; clear hr2
              go_wp2_with fail
              go_roundw
              case rel => exact ⟨x + 1, by omega, by go_num, Hr2.out, grown_trans hg5 hg2⟩
              case measure => simp [intOf]; omega
        · obtain rfl : x = 48 := by omega
          go_wp2_with fail
          go_roundw
          case rel => exact ⟨y + 1, by omega, by go_num, by rw [selTo_succ]; exact Hr.out, hg⟩
          case measure => simp [intOf]; omega
    · obtain rfl : y = 24 := by omega
      have dO := grown_cell hg cO (by show O ≠ B; omega)
      obtain ⟨d6, f6⟩ := BoxAt.grown hg b6 (by show w.heap.size + 1 + 1 + 1 ≠ B; omega)
      have hE2 := Ext.grown hE hg (by omega)
      have hr3 := Hr.out.other (p := ⟨w.heap.size + 1 + 1 + 1, 0, none⟩) (by show w.heap.size + 1 + 1 + 1 ≠ B; omega) (.slice (some ⟨B, 0, none⟩) 24 24)
      have hv3 := (outTo_spec _ _ rfl (sel_all (f := f))).1
      have H3 := Lib.hid hr3; have Hv3 := Lib.hid hv3; clear hr3 hv3 hg
      go_wp2_with fail
      exact bodyPost_ret (v := .tuple #[.agg #[.slice (some ⟨B, 0, none⟩) 24 24], .int .i64 0]) (by simp [results, Try.results103, go_sem, d6]) rfl ⟨B, 24, rfl, by omega, H3.out, H3.out.va Hv3.out, by (repeat' (first | (with_reducible assumption) | (with_reducible exact Ext.refl _) | (with_reducible refine Ext.alloc ?_ _) | (with_reducible refine Ext.drew ?_) | (with_reducible refine Ext.drewN ?_ _) | (with_reducible refine Ext.setCell ?_ ?_ _) | (with_reducible refine Ext.trans ?_ (by assumption)) | go_size))⟩

theorem joined_n {w1 w2 : World} {a1 : Option Addr} {l1 : List Int} {n1 : Nat} (c1 : Nat) {v1 : Bool} {a2 : Option Addr} {l2 : List Int} {n2 : Nat} (c2 : Nat) {v2 : Bool} (t0 t1 t2 t3 : Bool) (w : World) (h1 : AA w1 a1 l1 n1 v1) (e1 : Ext w1 w) (h2 : AA w2 a2 l2 n2 v2) (e2 : Ext w2 w) (hv : (v1 && v2) = false) :
    Calls Try.prog 103 #[.agg #[.slice a1 n1 c1], .agg #[.slice a2 n2 c2], .agg #[.bool t0, .bool t1, .bool t2, .bool t3]] w (RetErr w 50) := by
  have H1 := Lib.hid (h1.ext e1); have H2 := Lib.hid (h2.ext e2)
  clear h1 h2 e1 e2
  cases v1
  · clear hv
    go_enter Try.func103, Try.ntmps103
    go_wp2_with (go_at_call 60; refine (rValid_c _ _ H1.out (by (repeat' (first | (with_reducible assumption) | (with_reducible exact Ext.refl _) | (with_reducible refine Ext.alloc ?_ _) | (with_reducible refine Ext.drew ?_) | (with_reducible refine Ext.drewN ?_ _) | (with_reducible refine Ext.setCell ?_ ?_ _) | (with_reducible refine Ext.trans ?_ (by assumption)) | go_size)))).mono ?_; rintro e w1 ⟨rfl, hb⟩; have hc := hb.cellE; have hf := hb.frozenE; have hz := hb.size; have ha := alloc_keeps w1; (try simp only [World.size_alloc] at hc hf hz); (try simp only [World.size_setCell] at hc hf hz); (try simp only [World.size_drew] at hc hf hz))
    ((try simp only [Exit.inBlock, Exit.then]); refine bodyPost_ret (v := .tuple #[.agg #[.slice none 0 0], .int .i64 50]) (by simp [results, Try.results103, go_sem, *]) rfl ?_)
    exact ⟨rfl, by (repeat' (first | (with_reducible assumption) | (with_reducible exact Ext.refl _) | (with_reducible refine Ext.alloc ?_ _) | (with_reducible refine Ext.drew ?_) | (with_reducible refine Ext.drewN ?_ _) | (with_reducible refine Ext.setCell ?_ ?_ _) | (with_reducible refine Ext.trans ?_ (by assumption)) | go_size))⟩
  · obtain rfl : v2 = false := by simpa using hv
    clear hv
    go_enter Try.func103, Try.ntmps103
    go_wp2_with (first | (go_at_call 60; (with_reducible refine (rValid_c _ _ H1.out (by (repeat' (first | (with_reducible assumption) | (with_reducible exact Ext.refl _) | (with_reducible refine Ext.alloc ?_ _) | (with_reducible refine Ext.drew ?_) | (with_reducible refine Ext.drewN ?_ _) | (with_reducible refine Ext.setCell ?_ ?_ _) | (with_reducible refine Ext.trans ?_ (by assumption)) | go_size)))).mono ?_); rintro e w1 ⟨rfl, hb⟩; have hc := hb.cellE; have hf := hb.frozenE; have hz := hb.size; have ha := alloc_keeps w1; (try simp only [World.size_alloc] at hc hf hz); (try simp only [World.size_setCell] at hc hf hz); (try simp only [World.size_drew] at hc hf hz)) | (go_at_call 60; refine (rValid_c _ _ H2.out (by (repeat' (first | (with_reducible assumption) | (with_reducible exact Ext.refl _) | (with_reducible refine Ext.alloc ?_ _) | (with_reducible refine Ext.drew ?_) | (with_reducible refine Ext.drewN ?_ _) | (with_reducible refine Ext.setCell ?_ ?_ _) | (with_reducible refine Ext.trans ?_ (by assumption)) | go_size)))).mono ?_; rintro e w2 ⟨rfl, hb2⟩; have hc2 := hb2.cellE; have hf2 := hb2.frozenE; have hz2 := hb2.size; have ha2 := alloc_keeps w2; (try simp only [World.size_alloc] at hc2 hf2 hz2); (try simp only [World.size_setCell] at hc2 hf2 hz2); (try simp only [World.size_drew] at hc2 hf2 hz2)))
    ((try simp only [Exit.inBlock, Exit.then]); refine bodyPost_ret (v := .tuple #[.agg #[.slice none 0 0], .int .i64 50]) (by simp [results, Try.results103, go_sem, *]) rfl ?_)
    exact ⟨rfl, by (repeat' (first | (with_reducible assumption) | (with_reducible exact Ext.refl _) | (with_reducible refine Ext.alloc ?_ _) | (with_reducible refine Ext.drew ?_) | (with_reducible refine Ext.drewN ?_ _) | (with_reducible refine Ext.setCell ?_ ?_ _) | (with_reducible refine Ext.trans ?_ (by assumption)) | go_size))⟩
theorem rLess_v {w1 w2 : World} {b1 o1 b2 o2 : Nat} (c1 c2 : Nat) {l1 l2 : List Int} (w : World) (h1 : VA w1 b1 o1 l1) (e1 : Ext w1 w) (h2 : VA w2 b2 o2 l2) (e2 : Ext w2 w) :
  Calls Try.prog 89 #[.agg #[.slice (some ⟨b1, o1, none⟩) 24 c1], .agg #[.slice (some ⟨b2, o2, none⟩) 24 c2]] w (RetV w (Globe.lessL l1 l2)) := by
 replace h1 := h1.ext e1; replace h2 := h2.ext e2; clear e1 e2
 have hs : outTo (selTo (fun x y => tb false false true false (Globe.hasL l1 x y) (Globe.hasL l2 x y)) 24) = Globe.lessL l1 l2 := out_sel (Globe.less_valid (b := l2) h1.2) fun x y hx hy => by
  rw [Globe.has_less hy]; cases Globe.hasL l1 x y <;> cases Globe.hasL l2 x y <;> rfl
 have H1 := Lib.hid h1; have H2 := Lib.hid h2; have HS := Lib.hid hs; have HV := Lib.hid (Globe.less_valid (b := l2) h1.2); clear h1 h2 hs
 go_enter Try.func89, Try.ntmps89
 go_wp2_with (go_at_call 103; refine (joined_v _ _ _ _ _ _ _ H1.out (by (repeat' (first | (with_reducible assumption) | (with_reducible exact Ext.refl _) | (with_reducible refine Ext.alloc ?_ _) | (with_reducible refine Ext.drew ?_) | (with_reducible refine Ext.drewN ?_ _) | (with_reducible refine Ext.setCell ?_ ?_ _) | (with_reducible refine Ext.trans ?_ (by assumption)) | go_size))) H2.out (by (repeat' (first | (with_reducible assumption) | (with_reducible exact Ext.refl _) | (with_reducible refine Ext.alloc ?_ _) | (with_reducible refine Ext.drew ?_) | (with_reducible refine Ext.drewN ?_ _) | (with_reducible refine Ext.setCell ?_ ?_ _) | (with_reducible refine Ext.trans ?_ (by assumption)) | go_size)))).mono ?_; rw [HS.out]; rintro e w1 ⟨B, k, rfl, hB, hr, hv, hb⟩; have hc := hb.cellE; have hf := hb.frozenE; have hz := hb.size; have ha := alloc_keeps w1; (try simp only [World.size_alloc] at hc hf hz); (try simp only [World.size_setCell] at hc hf hz); (try simp only [World.size_drew] at hc hf hz))
 have hne : w.heap.size + 1 + 1 ≠ B := by first | omega | (simp at hB; omega)
 have hr3 := hr.other (p := ⟨w.heap.size + 1 + 1, 0, none⟩) hne (.slice (some ⟨B, 0, none⟩) 24 k)
 refine bodyPost_ret (v := .tuple #[.agg #[.slice (some ⟨B, 0, none⟩) 24 k], .int .i64 0]) (by simp [results, Try.results89, go_sem, hc]) rfl ⟨B, k, rfl, by first | omega | (simp at hB; omega), hr3, hr3.va HV.out, by (repeat' (first | (with_reducible assumption) | (with_reducible exact Ext.refl _) | (with_reducible refine Ext.alloc ?_ _) | (with_reducible refine Ext.drew ?_) | (with_reducible refine Ext.drewN ?_ _) | (with_reducible refine Ext.setCell ?_ ?_ _) | (with_reducible refine Ext.trans ?_ (by assumption)) | go_size))⟩
theorem rLess_n {w1 w2 : World} {a1 : Option Addr} {l1 : List Int} {n1 : Nat} (c1 : Nat) {v1 : Bool} {a2 : Option Addr} {l2 : List Int} {n2 : Nat} (c2 : Nat) {v2 : Bool} (w : World) (h1 : AA w1 a1 l1 n1 v1) (e1 : Ext w1 w) (h2 : AA w2 a2 l2 n2 v2) (e2 : Ext w2 w) (hv : (v1 && v2) = false) :
  Calls Try.prog 89 #[.agg #[.slice a1 n1 c1], .agg #[.slice a2 n2 c2]] w (RetErr w 50) := by
 have H1 := Lib.hid (h1.ext e1); have H2 := Lib.hid (h2.ext e2)
 clear h1 h2 e1 e2
 go_enter Try.func89, Try.ntmps89
 go_wp2_with (go_at_call 103; refine (joined_n _ _ _ _ _ _ _ H1.out (by (repeat' (first | (with_reducible assumption) | (with_reducible exact Ext.refl _) | (with_reducible refine Ext.alloc ?_ _) | (with_reducible refine Ext.drew ?_) | (with_reducible refine Ext.drewN ?_ _) | (with_reducible refine Ext.setCell ?_ ?_ _) | (with_reducible refine Ext.trans ?_ (by assumption)) | go_size))) H2.out (by (repeat' (first | (with_reducible assumption) | (with_reducible exact Ext.refl _) | (with_reducible refine Ext.alloc ?_ _) | (with_reducible refine Ext.drew ?_) | (with_reducible refine Ext.drewN ?_ _) | (with_reducible refine Ext.setCell ?_ ?_ _) | (with_reducible refine Ext.trans ?_ (by assumption)) | go_size))) hv).mono ?_; rintro e w1 ⟨rfl, hb⟩; have hc := hb.cellE; have hf := hb.frozenE; have hz := hb.size; have ha := alloc_keeps w1; (try simp only [World.size_alloc] at hc hf hz); (try simp only [World.size_setCell] at hc hf hz); (try simp only [World.size_drew] at hc hf hz))
 ((try simp only [Exit.inBlock, Exit.then]); refine bodyPost_ret (v := .tuple #[.agg #[.slice none 0 0], .int .i64 50]) (by simp [results, Try.results89, go_sem, *]) rfl ?_)
 exact ⟨rfl, by (repeat' (first | (with_reducible assumption) | (with_reducible exact Ext.refl _) | (with_reducible refine Ext.alloc ?_ _) | (with_reducible refine Ext.drew ?_) | (with_reducible refine Ext.drewN ?_ _) | (with_reducible refine Ext.setCell ?_ ?_ _) | (with_reducible refine Ext.trans ?_ (by assumption)) | go_size))⟩
theorem rContains_c {w1 w2 : World} {a1 : Option Addr} {l1 : List Int} {n1 : Nat} (c1 : Nat) {v1 : Bool} {a2 : Option Addr} {l2 : List Int} {n2 : Nat} (c2 : Nat) {v2 : Bool} (w : World) (h1 : AA w1 a1 l1 n1 v1) (e1 : Ext w1 w) (h2 : AA w2 a2 l2 n2 v2) (e2 : Ext w2 w) :
    Calls Try.prog 59 #[.agg #[.slice a1 n1 c1], .agg #[.slice a2 n2 c2]] w fun e w' => e = .returned (.bool (Globe.containsB l1 l2)) ∧ Ext w w' := by
  replace h1 := h1.ext e1; replace h2 := h2.ext e2; clear e1 e2
  have hcb : Globe.containsB l1 l2 = (v1 && v2 && decide (Globe.lessL l2 l1 = Globe.zeroL)) := by unfold Globe.containsB; rw [h1.2.2.2, h2.2.2.2]
  rw [hcb]
  clear hcb
  cases hq : (v2 && v1)
  · have hq' : (v1 && v2) = false := by rw [Bool.and_comm]; exact hq
    rw [hq']
    have H1 := Lib.hid h1; have H2 := Lib.hid h2; have HQ := Lib.hid hq
    clear h1 h2 hq hq'
    go_enter Try.func59, Try.ntmps59
    go_wp2_with (go_at_call 89; refine (rLess_n _ _ _ H2.out (by (repeat' (first | (with_reducible assumption) | (with_reducible exact Ext.refl _) | (with_reducible refine Ext.alloc ?_ _) | (with_reducible refine Ext.drew ?_) | (with_reducible refine Ext.drewN ?_ _) | (with_reducible refine Ext.setCell ?_ ?_ _) | (with_reducible refine Ext.trans ?_ (by assumption)) | go_size))) H1.out (by (repeat' (first | (with_reducible assumption) | (with_reducible exact Ext.refl _) | (with_reducible refine Ext.alloc ?_ _) | (with_reducible refine Ext.drew ?_) | (with_reducible refine Ext.drewN ?_ _) | (with_reducible refine Ext.setCell ?_ ?_ _) | (with_reducible refine Ext.trans ?_ (by assumption)) | go_size))) HQ.out).mono ?_; rintro e w1 ⟨rfl, hb⟩; have hc := hb.cellE; have hf := hb.frozenE; have hz := hb.size; have ha := alloc_keeps w1; (try simp only [World.size_alloc] at hc hf hz); (try simp only [World.size_setCell] at hc hf hz); (try simp only [World.size_drew] at hc hf hz))
    go_ret
    exact ⟨rfl, by (repeat' (first | (with_reducible assumption) | (with_reducible exact Ext.refl _) | (with_reducible refine Ext.alloc ?_ _) | (with_reducible refine Ext.drew ?_) | (with_reducible refine Ext.drewN ?_ _) | (with_reducible refine Ext.setCell ?_ ?_ _) | (with_reducible refine Ext.trans ?_ (by assumption)) | go_size))⟩
  · obtain ⟨rfl, rfl⟩ := Bool.and_eq_true_iff.1 hq
    clear hq
    obtain ⟨b1, o1, rfl, rfl, r1⟩ := h1.va
    obtain ⟨b2, o2, rfl, rfl, r2⟩ := h2.va
    have hz := Globe.count_zero_iff (Globe.less_valid (b := l1) r2.2)
    obtain ⟨m, hm⟩ : ∃ m, (Globe.cellsTo (Globe.lessL l2 l1) 24).length = m := ⟨_, rfl⟩
    have hcl : Globe.countL (Globe.lessL l2 l1) = m := by unfold Globe.countL Globe.cellsL; rw [Globe.less_valid r2.2]; exact hm
    rw [hm] at hz
    have HC := Lib.hid hcl; have H1 := Lib.hid r1; have H2 := Lib.hid r2
    clear hm hcl h1 h2 r1 r2
    by_cases h0 : m = 0
    · rw [decide_eq_true (hz.1 h0)]
      subst h0
      clear hz
      go_enter Try.func59, Try.ntmps59
      go_wp2_with (first | (go_at_call 89; refine (rLess_v _ _ _ H2.out (by (repeat' (first | (with_reducible assumption) | (with_reducible exact Ext.refl _) | (with_reducible refine Ext.alloc ?_ _) | (with_reducible refine Ext.drew ?_) | (with_reducible refine Ext.drewN ?_ _) | (with_reducible refine Ext.setCell ?_ ?_ _) | (with_reducible refine Ext.trans ?_ (by assumption)) | go_size))) H1.out (by (repeat' (first | (with_reducible assumption) | (with_reducible exact Ext.refl _) | (with_reducible refine Ext.alloc ?_ _) | (with_reducible refine Ext.drew ?_) | (with_reducible refine Ext.drewN ?_ _) | (with_reducible refine Ext.setCell ?_ ?_ _) | (with_reducible refine Ext.trans ?_ (by assumption)) | go_size)))).mono ?_; rintro e w1 ⟨B, k, rfl, hB, hr, hv, hb⟩; clear hr hB; have hc := hb.cellE; have hf := hb.frozenE; have hz := hb.size; have ha := alloc_keeps w1; (try simp only [World.size_alloc] at hc hf hz); (try simp only [World.size_setCell] at hc hf hz); (try simp only [World.size_drew] at hc hf hz)) | (go_at_call 90; refine (rCount_c _ _ hv.aa (by first | exact Ext.refl _ | exact Ext.alloc (Ext.refl _) _)).mono ?_; rw [HC.out]; rintro e w2 ⟨rfl, hb2⟩; have hc2 := hb2.cellE; have hf2 := hb2.frozenE; have hz2 := hb2.size; have ha2 := alloc_keeps w2; (try simp only [World.size_alloc] at hc2 hf2 hz2); (try simp only [World.size_setCell] at hc2 hf2 hz2); (try simp only [World.size_drew] at hc2 hf2 hz2)))
      go_ret
      exact ⟨rfl, by (repeat' (first | (with_reducible assumption) | (with_reducible exact Ext.refl _) | (with_reducible refine Ext.alloc ?_ _) | (with_reducible refine Ext.drew ?_) | (with_reducible refine Ext.drewN ?_ _) | (with_reducible refine Ext.setCell ?_ ?_ _) | (with_reducible refine Ext.trans ?_ (by assumption)) | go_size))⟩
    · rw [decide_eq_false (fun e => h0 (hz.2 e))]
      have m1 : ((m : Int) == 0) = false := by simp; omega
      have m2 : (m == 0) = false := by simp; omega
      clear hz
      go_enter Try.func59, Try.ntmps59
      go_wp2_with (first | (go_at_call 89; refine (rLess_v _ _ _ H2.out (by (repeat' (first | (with_reducible assumption) | (with_reducible exact Ext.refl _) | (with_reducible refine Ext.alloc ?_ _) | (with_reducible refine Ext.drew ?_) | (with_reducible refine Ext.drewN ?_ _) | (with_reducible refine Ext.setCell ?_ ?_ _) | (with_reducible refine Ext.trans ?_ (by assumption)) | go_size))) H1.out (by (repeat' (first | (with_reducible assumption) | (with_reducible exact Ext.refl _) | (with_reducible refine Ext.alloc ?_ _) | (with_reducible refine Ext.drew ?_) | (with_reducible refine Ext.drewN ?_ _) | (with_reducible refine Ext.setCell ?_ ?_ _) | (with_reducible refine Ext.trans ?_ (by assumption)) | go_size)))).mono ?_; rintro e w1 ⟨B, k, rfl, hB, hr, hv, hb⟩; clear hr hB; have hc := hb.cellE; have hf := hb.frozenE; have hz := hb.size; have ha := alloc_keeps w1; (try simp only [World.size_alloc] at hc hf hz); (try simp only [World.size_setCell] at hc hf hz); (try simp only [World.size_drew] at hc hf hz)) | (go_at_call 90; refine (rCount_c _ _ hv.aa (by first | exact Ext.refl _ | exact Ext.alloc (Ext.refl _) _)).mono ?_; rw [HC.out]; rintro e w2 ⟨rfl, hb2⟩; have hc2 := hb2.cellE; have hf2 := hb2.frozenE; have hz2 := hb2.size; have ha2 := alloc_keeps w2; (try simp only [World.size_alloc] at hc2 hf2 hz2); (try simp only [World.size_setCell] at hc2 hf2 hz2); (try simp only [World.size_drew] at hc2 hf2 hz2)))
      go_ret
      exact ⟨rfl, by (repeat' (first | (with_reducible assumption) | (with_reducible exact Ext.refl _) | (with_reducible refine Ext.alloc ?_ _) | (with_reducible refine Ext.drew ?_) | (with_reducible refine Ext.drewN ?_ _) | (with_reducible refine Ext.setCell ?_ ?_ _) | (with_reducible refine Ext.trans ?_ (by assumption)) | go_size))⟩

end Go.Proofs.Ytdjjkhefdalokaa

/- Contracts of the reference of chapter 8: Shows. -/
namespace Go.Proofs.Ytdjjkhefdalokaa
open Go.RowKit

set_option maxRecDepth 1000000 in
set_option maxHeartbeats 4000000 in
theorem rShows_t {w1 : World} {o : Orb} {s : Int × Int} {lk : Int} {a : Option Addr} {l : List Int} {n : Nat} {v : Bool} (c : Nat) (w : World) (hA : AA w1 a l n v) (e1 : Ext w1 w) (hv : Swath.shB o s lk = true) : Calls Try.prog 25 #[.agg #[.int .i64 o.p, .int .i64 o.f, .int .i64 o.lo, .int .i64 o.hi, .int .i64 o.nd, .int .i64 o.tn, .int .i64 o.sl], .agg #[.int .i64 s.1, .int .i64 s.2], .int .i64 lk, .agg #[.slice a n c]] w fun e w' => e = .returned (.bool (Swath.showsB o s lk l)) ∧ Ext w w' := by
 refine calls_cw 26 [(3, .agg #[.slice a n c]), (2, .int .i64 lk), (1, .agg #[.int .i64 s.1, .int .i64 s.2]), (0, .agg #[.int .i64 o.p, .int .i64 o.f, .int .i64 o.lo, .int .i64 o.hi, .int .i64 o.nd, .int .i64 o.tn, .int .i64 o.sl])] Try.func25 rfl Try.ntmps25 (by kernel_rfl) (by kernel_rfl) (fun L => ?_)
 have hE : Ext w w := Ext.refl w
 refine cw_seq ?_; refine cw_plain ?_
 refine pS (sn_new (us := #[.int .i64 o.p, .int .i64 o.f, .int .i64 o.lo, .int .i64 o.hi, .int .i64 o.nd, .int .i64 o.tn, .int .i64 o.sl]) (t := 24) (by kernel_rfl) ?_)
 intro O1 X2 hzO1 hyO1 hb hbx; have ⟨bO1_0, bO1_1, bO1_2, bO1_3, bO1_4, bO1_5, bO1_6⟩ := bx7 hbx; clear hbx
 replace hE := hE.trans hb; have hs3 := hb.size; clear hb; have lt4 := bO1_0.lt
 refine pS (sn_new (us := #[.int .i64 s.1, .int .i64 s.2]) (t := 26) (by kernel_rfl) ?_)
 intro O5 X6 hzO5 hyO5 hb hbx; have ⟨bO5_0, bO5_1⟩ := bx2 hbx; clear hbx
 replace hE := hE.trans hb; replace bO1_0 := BoxAt.ext hb bO1_0; replace bO1_1 := BoxAt.ext hb bO1_1; replace bO1_2 := BoxAt.ext hb bO1_2; replace bO1_3 := BoxAt.ext hb bO1_3; replace bO1_4 := BoxAt.ext hb bO1_4; replace bO1_5 := BoxAt.ext hb bO1_5; replace bO1_6 := BoxAt.ext hb bO1_6; have hs7 := hb.size; clear hb; have lt8 := bO5_0.lt
 refine pS (sn_new (us := #[.slice a n c]) (t := 31) (by kernel_rfl) ?_)
 intro O9 X10 hzO9 hyO9 hb hbx; have bO9_0 := bx1 hbx; clear hbx
 replace hE := hE.trans hb; replace bO1_0 := BoxAt.ext hb bO1_0; replace bO1_1 := BoxAt.ext hb bO1_1; replace bO1_2 := BoxAt.ext hb bO1_2; replace bO1_3 := BoxAt.ext hb bO1_3; replace bO1_4 := BoxAt.ext hb bO1_4; replace bO1_5 := BoxAt.ext hb bO1_5; replace bO1_6 := BoxAt.ext hb bO1_6; replace bO5_0 := BoxAt.ext hb bO5_0; replace bO5_1 := BoxAt.ext hb bO5_1; have hs11 := hb.size; clear hb; have lt12 := bO9_0.lt; refine pT (.bool false) ?_; refine pl_nil ?_; refine qw_then ?_; refine cw_seq ?_; have hX13 : Ext X10 X10 := Ext.refl _; refine cw_plain ?_
 refine pU (.agg #[.int .i64 o.p, .int .i64 o.f, .int .i64 o.lo, .int .i64 o.hi, .int .i64 o.nd, .int .i64 o.tn, .int .i64 o.sl]) (ex_load rfl (by kernel_rfl) (ld24 (bO1_0.1) (bO1_1.1) (bO1_2.1) (bO1_3.1) (bO1_4.1) (bO1_5.1) (bO1_6.1))) ?_
 refine pU (.agg #[.int .i64 s.1, .int .i64 s.2]) (ex_load rfl (by kernel_rfl) (ld26 (bO5_0.1) (bO5_1.1))) ?_
 refine pT (.int .i64 lk) ?_
 refine pS (sn_call (f := 18) (args := #[.agg #[.int .i64 o.p, .int .i64 o.f, .int .i64 o.lo, .int .i64 o.hi, .int .i64 o.nd, .int .i64 o.tn, .int .i64 o.sl], .agg #[.int .i64 s.1, .int .i64 s.2], .int .i64 lk]) (by kernel_rfl) ((rStrip_y (o := o) (s := s) (lk := lk) _ (hv)).mono ?_))
 rintro e w23 ⟨B14, g15, k16, k17, rfl, hn18, hn19, hne20, hr21, hr22, hb⟩
 replace hE := hE.trans hb; replace hX13 := hX13.trans hb; have hs24 := hb.size; clear hb; have lt25 := hr21.lt; have lt26 := hr22.lt
 have hne20h := Lib.hid hne20
 refine ⟨_, rfl, ?_⟩
 refine pT (.tuple #[.agg #[.slice (some ⟨B14, 0, none⟩) 24 k16, .slice (some ⟨g15, 0, none⟩) 24 k17], .int .i64 0]) ?_; refine pT (.agg #[.slice (some ⟨B14, 0, none⟩) 24 k16, .slice (some ⟨g15, 0, none⟩) 24 k17]) ?_; refine pT (.int .i64 0) ?_
 refine pS (sn_new (us := #[.slice none 0 0, .slice none 0 0]) (t := 44) (by kernel_rfl) ?_)
 intro O27 X28 hzO27 hyO27 hb hbx; have ⟨bO27_0, bO27_1⟩ := bx2 hbx; clear hbx
 replace hE := hE.trans hb; replace hX13 := hX13.trans hb; replace hr21 := hr21.ext hb; replace hr22 := hr22.ext hb; have hs29 := hb.size; clear hb; have lt30 := bO27_0.lt
 refine pP (sn_set2 (O := O27) (j := 0) (v := .slice (some ⟨B14, 0, none⟩) 24 k16) (v' := .slice (some ⟨g15, 0, none⟩) 24 k17) (ex_store (p := .pointer (some ⟨O27, 0, none⟩)) (v := .agg #[.slice (some ⟨B14, 0, none⟩) 24 k16, .slice (some ⟨g15, 0, none⟩) 24 k17]) rfl (by kernel_rfl) (by kernel_rfl) (st44 bO27_0.1 bO27_0.2 bO27_1.1 bO27_1.2)) bO27_0 bO27_1 ?_)
 intro X31 ho hv0 hv1 hk; replace hE := ho.ext hE (T (T hs3 (T hs7 (T hs11 hs24))) (Nat.le_of_eq hzO27)); replace hX13 := ho.ext hX13 (T hs24 (Nat.le_of_eq hzO27)); replace hr21 := ho.rows (Nat.ne_of_gt (Nat.lt_of_lt_of_le lt25 (Nat.le_of_eq hzO27))) hr21; replace hr22 := ho.rows (Nat.ne_of_gt (Nat.lt_of_lt_of_le lt26 (Nat.le_of_eq hzO27))) hr22; have hs32 : X28.heap.size ≤ X31.heap.size := Nat.le_of_eq ho.size.symm; clear ho hk bO27_0 bO27_1; have bO27_0 := hv0; clear hv0; have bO27_1 := hv1; clear hv1; refine pT (.int .i64 0) ?_; refine pl_nil ?_; refine qw_then ?_; refine cC3 7 9 10 (fun L => ?_); refine cw_seq ?_; have hX33 : Ext X31 X31 := Ext.refl _; refine cw_plain ?_; refine pT (.int .i64 0) ?_; refine pT (.bool true) ?_; refine pT (.bool true) ?_; refine pT (.pointer (some ⟨O27, 0, none⟩)) ?_
 refine pU (.agg #[.slice (some ⟨B14, 0, none⟩) 24 k16]) (ex_load rfl (by kernel_rfl) (ld31 (bO27_0.1))) ?_
 refine pU (.agg #[.slice a n c]) (ex_load rfl (by kernel_rfl) (ld31 ((BoxAt.ext (hX13.trans hX33) bO9_0).1))) ?_
 refine pS (sn_call (f := 59) (args := #[.agg #[.slice (some ⟨B14, 0, none⟩) 24 k16], .agg #[.slice a n c]]) (by kernel_rfl) ((rContains_c _ _ _ (RowsAt.va hr21 (Swath.sure_valid (Swath.shB_t.1 hv).1 s lk)).aa (Ext.refl _) hA (e1.trans hE)).mono ?_))
 rintro e w34 ⟨rfl, hb⟩
 replace hE := hE.trans hb; replace hX33 := hX33.trans hb; have hs35 := hb.size; clear hb
 refine ⟨_, rfl, ?_⟩
 refine pT (.bool (Globe.containsB (Swath.sureL o s lk) l)) ?_; refine pT (.bool (Globe.containsB (Swath.sureL o s lk) l)) ?_; refine pl_nil ?_; refine qw_then ?_
 refine cw_ret ?_
 refine qw_ret [.bool (Globe.containsB (Swath.sureL o s lk) l)] rfl ⟨(by kernel_rfl), trivial⟩ ?_
 exact ⟨congrArg (fun b => Ending.returned (Value.bool b)) (show Swath.showsB o s lk l = Globe.containsB (Swath.sureL o s lk) l by unfold Swath.showsB; rw [hv]; rfl).symm, hE⟩
set_option maxRecDepth 1000000 in
set_option maxHeartbeats 4000000 in
theorem rShows_f {w1 : World} {o : Orb} {s : Int × Int} {lk : Int} {a : Option Addr} {l : List Int} {n : Nat} {v : Bool} (c : Nat) (w : World) (_hA : AA w1 a l n v) (_e1 : Ext w1 w) (hv : Swath.shB o s lk = false) : Calls Try.prog 25 #[.agg #[.int .i64 o.p, .int .i64 o.f, .int .i64 o.lo, .int .i64 o.hi, .int .i64 o.nd, .int .i64 o.tn, .int .i64 o.sl], .agg #[.int .i64 s.1, .int .i64 s.2], .int .i64 lk, .agg #[.slice a n c]] w fun e w' => e = .returned (.bool (Swath.showsB o s lk l)) ∧ Ext w w' := by
 refine calls_cw 26 [(3, .agg #[.slice a n c]), (2, .int .i64 lk), (1, .agg #[.int .i64 s.1, .int .i64 s.2]), (0, .agg #[.int .i64 o.p, .int .i64 o.f, .int .i64 o.lo, .int .i64 o.hi, .int .i64 o.nd, .int .i64 o.tn, .int .i64 o.sl])] Try.func25 rfl Try.ntmps25 (by kernel_rfl) (by kernel_rfl) (fun L => ?_)
 have hE : Ext w w := Ext.refl w
 refine cw_seq ?_; refine cw_plain ?_
 refine pS (sn_new (us := #[.int .i64 o.p, .int .i64 o.f, .int .i64 o.lo, .int .i64 o.hi, .int .i64 o.nd, .int .i64 o.tn, .int .i64 o.sl]) (t := 24) (by kernel_rfl) ?_)
 intro O1 X2 hzO1 hyO1 hb hbx; have ⟨bO1_0, bO1_1, bO1_2, bO1_3, bO1_4, bO1_5, bO1_6⟩ := bx7 hbx; clear hbx
 replace hE := hE.trans hb; have hs3 := hb.size; clear hb; have lt4 := bO1_0.lt
 refine pS (sn_new (us := #[.int .i64 s.1, .int .i64 s.2]) (t := 26) (by kernel_rfl) ?_)
 intro O5 X6 hzO5 hyO5 hb hbx; have ⟨bO5_0, bO5_1⟩ := bx2 hbx; clear hbx
 replace hE := hE.trans hb; replace bO1_0 := BoxAt.ext hb bO1_0; replace bO1_1 := BoxAt.ext hb bO1_1; replace bO1_2 := BoxAt.ext hb bO1_2; replace bO1_3 := BoxAt.ext hb bO1_3; replace bO1_4 := BoxAt.ext hb bO1_4; replace bO1_5 := BoxAt.ext hb bO1_5; replace bO1_6 := BoxAt.ext hb bO1_6; have hs7 := hb.size; clear hb; have lt8 := bO5_0.lt
 refine pS (sn_new (us := #[.slice a n c]) (t := 31) (by kernel_rfl) ?_)
 intro O9 X10 hzO9 hyO9 hb hbx; have bO9_0 := bx1 hbx; clear hbx
 replace hE := hE.trans hb; replace bO1_0 := BoxAt.ext hb bO1_0; replace bO1_1 := BoxAt.ext hb bO1_1; replace bO1_2 := BoxAt.ext hb bO1_2; replace bO1_3 := BoxAt.ext hb bO1_3; replace bO1_4 := BoxAt.ext hb bO1_4; replace bO1_5 := BoxAt.ext hb bO1_5; replace bO1_6 := BoxAt.ext hb bO1_6; replace bO5_0 := BoxAt.ext hb bO5_0; replace bO5_1 := BoxAt.ext hb bO5_1; have hs11 := hb.size; clear hb; have lt12 := bO9_0.lt; refine pT (.bool false) ?_; refine pl_nil ?_; refine qw_then ?_; refine cw_seq ?_; have hX13 : Ext X10 X10 := Ext.refl _; refine cw_plain ?_
 refine pU (.agg #[.int .i64 o.p, .int .i64 o.f, .int .i64 o.lo, .int .i64 o.hi, .int .i64 o.nd, .int .i64 o.tn, .int .i64 o.sl]) (ex_load rfl (by kernel_rfl) (ld24 (bO1_0.1) (bO1_1.1) (bO1_2.1) (bO1_3.1) (bO1_4.1) (bO1_5.1) (bO1_6.1))) ?_
 refine pU (.agg #[.int .i64 s.1, .int .i64 s.2]) (ex_load rfl (by kernel_rfl) (ld26 (bO5_0.1) (bO5_1.1))) ?_
 refine pT (.int .i64 lk) ?_
 refine pS (sn_call (f := 18) (args := #[.agg #[.int .i64 o.p, .int .i64 o.f, .int .i64 o.lo, .int .i64 o.hi, .int .i64 o.nd, .int .i64 o.tn, .int .i64 o.sl], .agg #[.int .i64 s.1, .int .i64 s.2], .int .i64 lk]) (by kernel_rfl) ((rStrip_n _ (hv)).mono ?_))
 rintro e w14 ⟨rfl, hb⟩
 replace hE := hE.trans hb; replace hX13 := hX13.trans hb; have hs15 := hb.size; clear hb
 refine ⟨_, rfl, ?_⟩
 refine pT (.tuple #[.agg #[.slice none 0 0, .slice none 0 0], .int .i64 80]) ?_; refine pT (.agg #[.slice none 0 0, .slice none 0 0]) ?_; refine pT (.int .i64 80) ?_
 refine pS (sn_new (us := #[.slice none 0 0, .slice none 0 0]) (t := 44) (by kernel_rfl) ?_)
 intro O16 X17 hzO16 hyO16 hb hbx; have ⟨bO16_0, bO16_1⟩ := bx2 hbx; clear hbx
 replace hE := hE.trans hb; replace hX13 := hX13.trans hb; have hs18 := hb.size; clear hb; have lt19 := bO16_0.lt
 refine pP (sn_set2 (O := O16) (j := 0) (v := .slice none 0 0) (v' := .slice none 0 0) (ex_store (p := .pointer (some ⟨O16, 0, none⟩)) (v := .agg #[.slice none 0 0, .slice none 0 0]) rfl (by kernel_rfl) (by kernel_rfl) (st44 bO16_0.1 bO16_0.2 bO16_1.1 bO16_1.2)) bO16_0 bO16_1 ?_)
 intro X20 ho hv0 hv1 hk; replace hE := ho.ext hE (T (T hs3 (T hs7 (T hs11 hs15))) (Nat.le_of_eq hzO16)); replace hX13 := ho.ext hX13 (T hs15 (Nat.le_of_eq hzO16)); have hs21 : X17.heap.size ≤ X20.heap.size := Nat.le_of_eq ho.size.symm; clear ho hk bO16_0 bO16_1; have bO16_0 := hv0; clear hv0; have bO16_1 := hv1; clear hv1; refine pT (.int .i64 80) ?_; refine pl_nil ?_; refine qw_then ?_; refine cC3 7 9 10 (fun L => ?_); refine cw_seq ?_; refine cw_plain ?_; refine pT (.int .i64 80) ?_; refine pT (.bool false) ?_; refine pT (.bool false) ?_; refine pK ?_; refine pK ?_; refine pK ?_; refine pK ?_; refine pT (.bool false) ?_; refine pT (.bool false) ?_; refine pl_nil ?_; refine qw_then ?_
 refine cw_ret ?_
 refine qw_ret [.bool false] rfl ⟨(by kernel_rfl), trivial⟩ ?_
 exact ⟨congrArg (fun b => Ending.returned (Value.bool b)) (show Swath.showsB o s lk l = false by unfold Swath.showsB; rw [hv]; rfl).symm, hE⟩
theorem rShows_c {w1 : World} {o : Orb} {s : Int × Int} {lk : Int} {a : Option Addr} {l : List Int} {n : Nat} {v : Bool} (c : Nat) (w : World) (hA : AA w1 a l n v) (e1 : Ext w1 w) : Calls Try.prog 25 #[.agg #[.int .i64 o.p, .int .i64 o.f, .int .i64 o.lo, .int .i64 o.hi, .int .i64 o.nd, .int .i64 o.tn, .int .i64 o.sl], .agg #[.int .i64 s.1, .int .i64 s.2], .int .i64 lk, .agg #[.slice a n c]] w fun e w' => e = .returned (.bool (Swath.showsB o s lk l)) ∧ Ext w w' := by
 cases hv : Swath.shB o s lk
 · exact rShows_f c w hA e1 hv
 · exact rShows_t c w hA e1 hv

end Go.Proofs.Ytdjjkhefdalokaa

/- Which cells an exposure shows for sure, cell by cell. -/
namespace Go.Proofs.Ytdjjkhefdalokaa
namespace Swath
open Globe
theorem any_iff {P : Nat → Bool} : ∀ {n}, anyN P n = true ↔ ∃ i, i < n ∧ P i = true
  | 0 => ⟨fun h => (by cases h), fun ⟨_, h, _⟩ => absurd h (Nat.not_lt_zero _)⟩
  | n + 1 => by
    rw [any_succ, Bool.or_eq_true, any_iff]
    constructor
    · rintro (⟨i, hi, h⟩ | h)
      · exact ⟨i, by omega, h⟩
      · exact ⟨n, by omega, h⟩
    · rintro ⟨i, hi, h⟩
      rcases Nat.lt_or_ge i n with q | q
      · exact .inl ⟨i, q, h⟩
      · obtain rfl : i = n := by omega
        exact .inr h
def eqQ (o : Orb) (s : Int × Int) (lk : Int) (j : Nat) (p : Nat × Nat) (i : Nat) : Bool :=
 decide (((sx o lk (s.1 + ((i : Nat) : Int) - (-o.sl + ((j : Nat) : Int))) : Nat) : Int) = ((p.1 : Nat) : Int) ∧ ((Orb.cy o (s.1 + ((i : Nat) : Int) - (-o.sl + ((j : Nat) : Int))) : Nat) : Int) = ((p.2 : Nat) : Int))
theorem eq_has {o : Orb} (h : Orb.ok o = true) {s : Int × Int} {lk : Int} {j m : Nat} {p : Nat × Nat} (hm : m ≤ mins s) (ha : anyN (eqQ o s lk j p) m = true) : hasL (areaJ o s lk j) p.1 p.2 = true := by
 obtain ⟨i, hi, he⟩ := any_iff.1 ha
 unfold eqQ at he
 have he := of_decide_eq_true he
 unfold areaJ
 rw [has_show h]
 unfold mins at hm
 refine ⟨i, by omega, ?_, ?_⟩
 · rw [show s.1 - (-o.sl + ((j : Nat) : Int)) + ((i : Nat) : Int) = s.1 + ((i : Nat) : Int) - (-o.sl + ((j : Nat) : Int)) by omega]; omega
 · rw [show s.1 - (-o.sl + ((j : Nat) : Int)) + ((i : Nat) : Int) = s.1 + ((i : Nat) : Int) - (-o.sl + ((j : Nat) : Int)) by omega]; omega
theorem eq_not {o : Orb} (h : Orb.ok o = true) {s : Int × Int} {lk : Int} {j : Nat} {p : Nat × Nat} (ha : anyN (eqQ o s lk j p) (mins s) = false) : hasL (areaJ o s lk j) p.1 p.2 = false := by
  cases hq : hasL (areaJ o s lk j) p.1 p.2
  · rfl
  · unfold areaJ at hq
    obtain ⟨i, hi, h1, h2⟩ := (has_show h _ _ _).1 hq
    rw [show s.1 - (-o.sl + ((j : Nat) : Int)) + ((i : Nat) : Int) = s.1 + ((i : Nat) : Int) - (-o.sl + ((j : Nat) : Int)) by omega] at h1 h2
    have : anyN (eqQ o s lk j p) (mins s) = true := any_iff.2 ⟨i, hi, decide_eq_true ⟨by omega, by omega⟩⟩
    rw [this] at ha; cases ha
/-- With the first delays all cells are shown, with the next one the first cells. -/
def CovTo (o : Orb) (s : Int × Int) (lk : Int) (cs : List (Nat × Nat)) (j i : Nat) : Prop :=
 (∀ (k q : Nat) (p : Nat × Nat), k < j → cs[q]? = some p → hasL (areaJ o s lk k) p.1 p.2 = true) ∧ ∀ (q : Nat) (p : Nat × Nat), q < i → cs[q]? = some p → hasL (areaJ o s lk j) p.1 p.2 = true
theorem cov_0 (o : Orb) (s : Int × Int) (lk : Int) (cs : List (Nat × Nat)) : CovTo o s lk cs 0 0 := ⟨fun _ _ _ h => absurd h (Nat.not_lt_zero _), fun _ _ h => absurd h (Nat.not_lt_zero _)⟩
theorem CovTo.cell {o : Orb} {s : Int × Int} {lk : Int} {cs : List (Nat × Nat)} {j i : Nat} {p : Nat × Nat} (h : CovTo o s lk cs j i) (hp : cs[i]? = some p) (hh : hasL (areaJ o s lk j) p.1 p.2 = true) : CovTo o s lk cs j (i + 1) :=
  ⟨h.1, fun q r hq hr => by
    rcases Nat.lt_or_ge q i with z | z
    · exact h.2 q r z hr
    · obtain rfl : q = i := by omega
      rw [hp] at hr; cases hr; exact hh⟩
theorem CovTo.row {o : Orb} {s : Int × Int} {lk : Int} {cs : List (Nat × Nat)} {j i : Nat} (h : CovTo o s lk cs j i) (hi : i = cs.length) : CovTo o s lk cs (j + 1) 0 :=
  ⟨fun k q p hk hp => by
    rcases Nat.lt_or_ge k j with z | z
    · exact h.1 k q p z hp
    · obtain rfl : k = j := by omega
      exact h.2 q p (by rw [hi]; exact (List.getElem?_eq_some_iff.1 hp).1) hp, fun _ _ h => absurd h (Nat.not_lt_zero _)⟩
theorem cov_yes {o : Orb} (h : Orb.ok o = true) {s : Int × Int} {lk : Int} {L : List Int} (hL : validL L = true) {cs : List (Nat × Nat)} (hcs : cs = cellsTo L 24) {j : Nat} (hj : j = lates o) (hc : CovTo o s lk cs j 0) : containsB (sureL o s lk) L = true :=
 (contains_iff (sure_valid h _ _) hL).2 fun x y hx hy hh => (has_sure h hy).2 fun k hk => by
  have hm : (x, y) ∈ cs := by rw [hcs]; exact mem_cells.2 ⟨hy, hx, hh⟩
  obtain ⟨q, hq⟩ := List.getElem?_of_mem hm
  exact hc.1 k q (x, y) (by omega) hq
theorem cov_no {o : Orb} (h : Orb.ok o = true) {s : Int × Int} {lk : Int} {L : List Int} (hL : validL L = true) {cs : List (Nat × Nat)} (hcs : cs = cellsTo L 24) {j i : Nat} {p : Nat × Nat} (hj : j < lates o) (hp : cs[i]? = some p) (hh : hasL (areaJ o s lk j) p.1 p.2 = false) : containsB (sureL o s lk) L = false := by
  cases hq : containsB (sureL o s lk) L
  · rfl
  · have hm : p ∈ cellsTo L 24 := by rw [← hcs]; exact List.mem_of_getElem? hp
    obtain ⟨h1, h2, h3⟩ := mem_cells.1 hm
    have h4 := (has_sure h h1).1 ((contains_iff (sure_valid h _ _) hL).1 hq p.1 p.2 h2 h1 h3) j hj
    rw [h4] at hh; cases hh
end Swath
end Go.Proofs.Ytdjjkhefdalokaa

/- Equal cells, equal spells. -/
namespace Go.Proofs.Ytdjjkhefdalokaa
open Go.RowKit
theorem eqCell {ev : Operand → Value} {o : Oper} {x y : Operand} {a b c d : Int} {w : World} (hop : o.op = .binOp .eql 57 x y 57) (hx : ev x = .agg #[.int .i64 a, .int .i64 b]) (hy : ev y = .agg #[.int .i64 c, .int .i64 d]) : (execOp ev o).run Try.prog w = .ok (.value (.bool (decide (a = c ∧ b = d)))) w := by
  unfold execOp
  rw [hop]
  simp only []
  rw [hx, hy]
  by_cases h1 : a = c
  · by_cases h2 : b = d
    · subst h1; subst h2
      go_simp
    · go_simp
  · go_simp
theorem neSpell {ev : Operand → Value} {o : Oper} {x y : Operand} {a b : Int} {w : World} (hop : o.op = .binOp .neq 26 x y 26) (hx : ev x = .agg #[.int .i64 a, .int .i64 b]) (hy : ev y = .agg #[.int .i64 a, .int .i64 b]) : (execOp ev o).run Try.prog w = .ok (.value (.bool false)) w := by
 unfold execOp
 rw [hop]
 simp only []
 rw [hx, hy]
 go_simp
end Go.Proofs.Ytdjjkhefdalokaa
