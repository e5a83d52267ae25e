/- Part 4 of what the proof of ProductVersions stands on. -/
import Derived.Test.YtajdohcgjgknmaaDoorV3ProductVersions
/- Contracts of package product: Missing, Complete, made. -/
namespace Go.Proofs.YtajdohcgjgknmaaDoor
open Go.RowKit

theorem aa_q {w : World} {a : Option Addr} {l : List Int} {n : Nat} {v : Bool} (h : AA w a l n v) : AA w a l n (Globe.validL l) := ⟨h.1, h.2.1, h.2.2.1, rfl⟩
def RetPrd (w : World) (id ver : Int) (ar : List Int) (l : List Prod.Pc) (e : Ending) (w' : World) : Prop :=
 ∃ (a1 : Option Addr) (n1 k : Nat) (a : Option Addr) (n c : Nat), e = .returned (.tuple #[.agg #[.int .i64 id, .int .i64 ver, .slice a1 n1 k, .slice a n c], .int .i64 0]) ∧ AA w' a1 ar n1 (Globe.validL ar) ∧ (∀ ad, a1 = some ad → w.heap.size ≤ ad.block) ∧ PcsS (fun k => w.heap.size ≤ k) w' a n l ∧ n ≤ c ∧ Pl a ∧ Ext w w'
def RetPrdErr (w : World) (e : Ending) (w' : World) : Prop := e = .returned (.tuple #[.agg #[.int .i64 0, .int .i64 0, .slice none 0 0, .slice none 0 0], .int .i64 310]) ∧ Ext w w'
namespace Prod
theorem vGo_pcs : ∀ {l : List Pc} {F : List Int} {pre : List Pc}, vGo F pre l = true → ∀ p ∈ l, okP p = true
 | x :: l, F, pre, h, p, hp => by
  rw [vGo, Bool.and_eq_true] at h
  rcases List.mem_cons.1 hp with rfl | hp
  · have := h.1; simp [stepOk] at this; exact this.1
  · exact vGo_pcs h.2 p hp
theorem validP_t {id ver : Int} {ar : List Int} {ps : List Pc} (h : validP id ver ar ps = true) : (0 ≤ id ∧ id ≤ 63) ∧ (1 ≤ ver ∧ ver ≤ 100) ∧ Globe.validL ar = true ∧ ps.length ≤ 24 ∧ vGo ar [] ps = true := by
 unfold validP headOk at h
 simp only [Bool.and_eq_true, decide_eq_true_eq, Globe.inB_t] at h
 exact ⟨h.1.1.1, h.1.1.2, h.1.2.1, h.1.2.2, h.2⟩
theorem validP_ar {id ver : Int} {ar : List Int} {ps : List Pc} (h : validP id ver ar ps = true) : Globe.validL ar = true := (validP_t h).2.2.1
theorem validP_pcs {id ver : Int} {ar : List Int} {ps : List Pc} (h : validP id ver ar ps = true) : ∀ p ∈ ps, Globe.validL p.rw = true := fun p hp => (okP_t.1 (vGo_pcs (validP_t h).2.2.2.2 p hp)).2.2
end Prod
set_option maxRecDepth 1000000 in
set_option maxHeartbeats 4000000 in
theorem Missing_v {w1 w2 : World} {id ver : Int} {ar : List Int} {ps : List Prod.Pc} {a1 a : Option Addr} {n1 n : Nat} (c1 : Nat) {c : Nat} (w : World) (hnc : n ≤ c) (hA : AA w1 a1 ar n1 (Globe.validL ar)) (e1 : Ext w1 w) (hP : PcsAt w2 a n ps) (e2 : Ext w2 w) (hT : Tab w) (hv : Prod.validP id ver ar ps = true) : Calls Tryd.prog 12 #[.agg #[.int .i64 id, .int .i64 ver, .slice a1 n1 c1, .slice a n c]] w fun e w' => ∃ B o k : Nat, e = .returned (.tuple #[.agg #[.slice (some ⟨B, o, none⟩) 24 k], .int .i64 0]) ∧ VA w' B o (Prod.rest ar ps) ∧ Ext w w' := by
 replace hA := hA.ext e1; replace hP := hP.ext e2; have hnb := hP.max; have hln := hP.len; clear e1 e2
 have hok := Prod.validP_pcs hv; have hva := Prod.validP_ar hv
 obtain ⟨b1, o2, rfl, rfl, hV3⟩ := va_of hA hva
 have lt4 := hV3.lt
 refine calls_cw 18 [(0, .agg #[.int .i64 id, .int .i64 ver, .slice (some ⟨b1, o2, none⟩) 24 c1, .slice a n c])] Tryd.func12 rfl Tryd.ntmps12 (by kernel_rfl) (by kernel_rfl) (fun L => ?_)
 have hE : Ext w w := Ext.refl w
 refine cw_seq ?_; refine cw_plain ?_
 refine pS (sn_new (us := #[.int .i64 id, .int .i64 ver, .slice (some ⟨b1, o2, none⟩) 24 c1, .slice a n c]) (t := 31) (by kernel_rfl) ?_)
 intro O5 X6 hzO5 hyO5 hb hbx; have ⟨bO5_0, bO5_1, bO5_2, bO5_3⟩ := bx4 hbx; clear hbx
 replace hE := hE.trans hb; have hs7 := hb.size; clear hb; have lt8 := bO5_0.lt
 refine pS (sn_new (us := #[.slice none 0 0]) (t := 26) (by kernel_rfl) ?_)
 intro O9 X10 hzO9 hyO9 hb hbx; have bO9_0 := bx1 hbx; clear hbx
 replace hE := hE.trans hb; replace bO5_0 := BoxAt.ext hb bO5_0; replace bO5_1 := BoxAt.ext hb bO5_1; replace bO5_2 := BoxAt.ext hb bO5_2; replace bO5_3 := BoxAt.ext hb bO5_3; have hs11 := hb.size; clear hb; have lt12 := bO9_0.lt; refine pT (.int .i64 0) ?_; refine pl_nil ?_; refine qw_then ?_; refine cw_seq ?_; refine cw_seq ?_; refine cw_plain ?_
 refine pU (.agg #[.int .i64 id, .int .i64 ver, .slice (some ⟨b1, o2, none⟩) 24 c1, .slice a n c]) (ex_load rfl (by kernel_rfl) (ld31 (bO5_0.1) (bO5_1.1) (bO5_2.1) (bO5_3.1))) ?_
 refine pS (sn_call (f := 28) (args := #[.agg #[.int .i64 id, .int .i64 ver, .slice (some ⟨b1, o2, none⟩) 24 c1, .slice a n c]]) (by kernel_rfl) ((pValid_r (id := id) (ver := ver) (r := true) _ _ (by omega) (aa_q (hV3.aa)) hE (hP) hE (hT.ext hE) hv).mono ?_))
 rintro e w13 ⟨rfl, hb⟩
 replace hE := hE.trans hb; replace bO5_0 := BoxAt.ext hb bO5_0; replace bO5_1 := BoxAt.ext hb bO5_1; replace bO5_2 := BoxAt.ext hb bO5_2; replace bO5_3 := BoxAt.ext hb bO5_3; replace bO9_0 := BoxAt.ext hb bO9_0; have hs14 := hb.size; clear hb
 refine ⟨_, rfl, ?_⟩
 refine pT (.bool false) ?_; refine pl_nil ?_; refine qw_then ?_
 refine cw_f (by kernel_rfl) ?_
 refine cw_skip ?_
 refine qw_then ?_; refine cw_seq ?_; refine cw_plain ?_; refine pT (.pointer (some ⟨O5, 2, none⟩)) ?_; refine pT (.pointer (some ⟨O5, 2, none⟩)) ?_
 refine pU (.slice (some ⟨b1, o2, none⟩) 24 c1) (ex_load rfl (by kernel_rfl) (ld24 (bO5_2.1))) ?_
 refine pS (sn_call (f := 36) (args := #[.slice (some ⟨b1, o2, none⟩) 24 c1]) (by kernel_rfl) ((Clone_v _ _ hV3 hE).mono ?_))
 rintro e w19 ⟨B15, k16, rfl, hn17, hr18, hb⟩
 replace hE := hE.trans hb; replace bO5_0 := BoxAt.ext hb bO5_0; replace bO5_1 := BoxAt.ext hb bO5_1; replace bO5_2 := BoxAt.ext hb bO5_2; replace bO5_3 := BoxAt.ext hb bO5_3; replace bO9_0 := BoxAt.ext hb bO9_0; have hs20 := hb.size; clear hb
 have hr18v := hr18.va hV3.2
 have lt21 := hr18v.lt
 refine ⟨_, rfl, ?_⟩
 refine pT (.agg #[.slice (some ⟨B15, 0, none⟩) 24 k16]) ?_
 refine pS (sn_new (us := #[.slice none 0 0]) (t := 26) (by kernel_rfl) ?_)
 intro O22 X23 hzO22 hyO22 hb hbx; have bO22_0 := bx1 hbx; clear hbx
 replace hE := hE.trans hb; replace bO5_0 := BoxAt.ext hb bO5_0; replace bO5_1 := BoxAt.ext hb bO5_1; replace bO5_2 := BoxAt.ext hb bO5_2; replace bO5_3 := BoxAt.ext hb bO5_3; replace bO9_0 := BoxAt.ext hb bO9_0; replace hr18v := hr18v.ext hb; have hs24 := hb.size; clear hb; have lt25 := bO22_0.lt
 refine pP (sn_set (O := O22) (j := 0) (v := .slice (some ⟨B15, 0, none⟩) 24 k16) (ex_store (p := .pointer (some ⟨O22, 0, none⟩)) (v := .agg #[.slice (some ⟨B15, 0, none⟩) 24 k16]) rfl (by kernel_rfl) (by kernel_rfl) (st26 bO22_0.1 bO22_0.2)) bO22_0 ?_)
 intro X26 ho hv0 hk; replace hE := ho.ext hE (T (T hs7 (T hs11 (T hs14 hs20))) (Nat.le_of_eq hzO22))
 have q9 := fun (j : Nat) (v : Value) (h : BoxAt _ O5 j v) => ho.box (Nat.ne_of_gt (Nat.lt_of_lt_of_le lt8 (T (T hs11 (T hs14 hs20)) (Nat.le_of_eq hzO22)))) h
 replace bO5_0 := q9 _ _ bO5_0; replace bO5_1 := q9 _ _ bO5_1; replace bO5_2 := q9 _ _ bO5_2; replace bO5_3 := q9 _ _ bO5_3; clear q9; replace bO9_0 := ho.box (Nat.ne_of_gt (Nat.lt_of_lt_of_le lt12 (T (T hs14 hs20) (Nat.le_of_eq hzO22)))) bO9_0; replace hr18v := ho.va (Nat.ne_of_gt (Nat.lt_of_lt_of_le lt21 (Nat.le_of_eq hzO22))) hr18v; have hs27 : X23.heap.size ≤ X26.heap.size := Nat.le_of_eq ho.size.symm; clear ho hk bO22_0; have bO22_0 := hv0; clear hv0; refine pl_nil ?_; refine qw_then ?_; refine cw_seq ?_; refine cw_plain ?_; refine pT (.pointer (some ⟨O5, 3, none⟩)) ?_
 refine pU (.slice a n c) (ex_load rfl (by kernel_rfl) (ld28 (bO5_3.1))) ?_
 refine pU (.agg #[.slice (some ⟨B15, 0, none⟩) 24 k16]) (ex_load rfl (by kernel_rfl) (ld26 (bO22_0.1))) ?_
 refine pS (sn_call (f := 37) (args := #[.slice a n c, .agg #[.slice (some ⟨B15, 0, none⟩) 24 k16], .func (.func 38) #[] #[]]) (by kernel_rfl) ((foldM_v _ _ _ (hP) hE hr18v (Ext.refl _) hok).mono ?_))
 rintro e w33 ⟨B28, o29, k30, rfl, hv31, hor32, hb⟩
 replace hE := hE.trans hb; replace bO5_0 := BoxAt.ext hb bO5_0; replace bO5_1 := BoxAt.ext hb bO5_1; replace bO5_2 := BoxAt.ext hb bO5_2; replace bO5_3 := BoxAt.ext hb bO5_3; replace bO9_0 := BoxAt.ext hb bO9_0; replace hr18v := hr18v.ext hb; replace bO22_0 := BoxAt.ext hb bO22_0; have hs34 := hb.size; clear hb; have lt35 := hv31.lt
 refine ⟨_, rfl, ?_⟩
 refine pP (sn_set (O := O9) (j := 0) (v := .slice (some ⟨B28, o29, none⟩) 24 k30) (ex_store (p := .pointer (some ⟨O9, 0, none⟩)) (v := .agg #[.slice (some ⟨B28, o29, none⟩) 24 k30]) rfl (by kernel_rfl) (by kernel_rfl) (st26 bO9_0.1 bO9_0.2)) bO9_0 ?_)
 intro X36 ho hv0 hk; replace hE := ho.ext hE (T hs7 (Nat.le_of_eq hzO9))
 have q9 := fun (j : Nat) (v : Value) (h : BoxAt _ O5 j v) => ho.box (Nat.ne_of_gt (Nat.lt_of_lt_of_le lt8 (Nat.le_of_eq hzO9))) h
 replace bO5_0 := q9 _ _ bO5_0; replace bO5_1 := q9 _ _ bO5_1; replace bO5_2 := q9 _ _ bO5_2; replace bO5_3 := q9 _ _ bO5_3; clear q9; replace hr18v := ho.va (Nat.ne_of_lt (Nat.lt_of_lt_of_le lt12 (T hs14 hn17))) hr18v; replace bO22_0 := ho.box (Nat.ne_of_lt (Nat.lt_of_lt_of_le lt12 (T (T hs14 hs20) (Nat.le_of_eq hzO22)))) bO22_0; replace hv31 := ho.va (Nat.ne_of_lt (Nat.lt_of_lt_of_le lt12 (T hs14 (hor32.elim (fun e => e.symm ▸ hn17) (fun h => T (T hs20 (T hs24 hs27)) h))))) hv31; have hs37 : w33.heap.size ≤ X36.heap.size := Nat.le_of_eq ho.size.symm; clear ho hk bO9_0; have bO9_0 := hv0; clear hv0; refine pT (.int .i64 0) ?_; refine pl_nil ?_; refine qw_then ?_; refine cC2 2 3 (fun L => ?_)
 refine cw_ret ?_
 refine qw_ret [.agg #[.slice (some ⟨B28, o29, none⟩) 24 k30], .int .i64 0] rfl ⟨⟨_, by kernel_rfl, res_ld (ld26 (bO9_0.1))⟩, (by kernel_rfl), trivial⟩ ?_
 exact ⟨_, _, _, rfl, hv31, hE⟩
set_option maxRecDepth 1000000 in
set_option maxHeartbeats 4000000 in
theorem Missing_n {w1 w2 : World} {id ver : Int} {ar : List Int} {ps : List Prod.Pc} {a1 a : Option Addr} {n1 n : Nat} (c1 : Nat) {c : Nat} (w : World) (hnc : n ≤ c) (hA : AA w1 a1 ar n1 (Globe.validL ar)) (e1 : Ext w1 w) (hP : PcsAt w2 a n ps) (e2 : Ext w2 w) (hT : Tab w) (hv : Prod.validP id ver ar ps = false) : Calls Tryd.prog 12 #[.agg #[.int .i64 id, .int .i64 ver, .slice a1 n1 c1, .slice a n c]] w (RetErr w 310) := by
 replace hA := hA.ext e1; replace hP := hP.ext e2; have hnb := hP.max; have hln := hP.len; clear e1 e2
 refine calls_cw 18 [(0, .agg #[.int .i64 id, .int .i64 ver, .slice a1 n1 c1, .slice a n c])] Tryd.func12 rfl Tryd.ntmps12 (by kernel_rfl) (by kernel_rfl) (fun L => ?_)
 have hE : Ext w w := Ext.refl w
 refine cw_seq ?_; refine cw_plain ?_
 refine pS (sn_new (us := #[.int .i64 id, .int .i64 ver, .slice a1 n1 c1, .slice a n c]) (t := 31) (by kernel_rfl) ?_)
 intro O1 X2 hzO1 hyO1 hb hbx; have ⟨bO1_0, bO1_1, bO1_2, bO1_3⟩ := bx4 hbx; clear hbx
 replace hE := hE.trans hb; have hs3 := hb.size; clear hb; have lt4 := bO1_0.lt
 refine pS (sn_new (us := #[.slice none 0 0]) (t := 26) (by kernel_rfl) ?_)
 intro O5 X6 hzO5 hyO5 hb hbx; have bO5_0 := bx1 hbx; clear hbx
 replace hE := hE.trans hb; replace bO1_0 := BoxAt.ext hb bO1_0; replace bO1_1 := BoxAt.ext hb bO1_1; replace bO1_2 := BoxAt.ext hb bO1_2; replace bO1_3 := BoxAt.ext hb bO1_3; have hs7 := hb.size; clear hb; have lt8 := bO5_0.lt; refine pT (.int .i64 0) ?_; refine pl_nil ?_; refine qw_then ?_; refine cw_seq ?_; refine cw_seq ?_; refine cw_plain ?_
 refine pU (.agg #[.int .i64 id, .int .i64 ver, .slice a1 n1 c1, .slice a n c]) (ex_load rfl (by kernel_rfl) (ld31 (bO1_0.1) (bO1_1.1) (bO1_2.1) (bO1_3.1))) ?_
 refine pS (sn_call (f := 28) (args := #[.agg #[.int .i64 id, .int .i64 ver, .slice a1 n1 c1, .slice a n c]]) (by kernel_rfl) ((pValid_r (id := id) (ver := ver) (r := false) _ _ (by omega) (aa_q (hA)) hE (hP) hE (hT.ext hE) hv).mono ?_))
 rintro e w9 ⟨rfl, hb⟩
 replace hE := hE.trans hb; replace bO1_0 := BoxAt.ext hb bO1_0; replace bO1_1 := BoxAt.ext hb bO1_1; replace bO1_2 := BoxAt.ext hb bO1_2; replace bO1_3 := BoxAt.ext hb bO1_3; replace bO5_0 := BoxAt.ext hb bO5_0; have hs10 := hb.size; clear hb
 refine ⟨_, rfl, ?_⟩
 refine pT (.bool true) ?_; refine pl_nil ?_; refine qw_then ?_
 refine cw_t (by kernel_rfl) ?_
 refine cw_seq ?_; refine cw_plain ?_; refine pT (.agg #[.slice none 0 0]) ?_
 refine pP (sn_set (O := O5) (j := 0) (v := .slice none 0 0) (ex_store (p := .pointer (some ⟨O5, 0, none⟩)) (v := .agg #[.slice none 0 0]) rfl (by kernel_rfl) (by kernel_rfl) (st26 bO5_0.1 bO5_0.2)) bO5_0 ?_)
 intro X11 ho hv0 hk; replace hE := ho.ext hE (T hs3 (Nat.le_of_eq hzO5))
 have q9 := fun (j : Nat) (v : Value) (h : BoxAt _ O1 j v) => ho.box (Nat.ne_of_gt (Nat.lt_of_lt_of_le lt4 (Nat.le_of_eq hzO5))) h
 replace bO1_0 := q9 _ _ bO1_0; replace bO1_1 := q9 _ _ bO1_1; replace bO1_2 := q9 _ _ bO1_2; replace bO1_3 := q9 _ _ bO1_3; clear q9; have hs12 : w9.heap.size ≤ X11.heap.size := Nat.le_of_eq ho.size.symm; clear ho hk bO5_0; have bO5_0 := hv0; clear hv0; refine pT (.int .i64 310) ?_; refine pl_nil ?_; refine qw_then ?_
 refine cw_ret ?_
 refine qw_then_ret ?_
 refine qw_ret [.agg #[.slice none 0 0], .int .i64 310] rfl ⟨⟨_, by kernel_rfl, res_ld (ld26 (bO5_0.1))⟩, (by kernel_rfl), trivial⟩ ?_
 exact ⟨rfl, hE⟩
set_option maxRecDepth 1000000 in
set_option maxHeartbeats 4000000 in
theorem Complete_t {w1 w2 : World} {id ver : Int} {ar : List Int} {ps : List Prod.Pc} {a1 a : Option Addr} {n1 n : Nat} (c1 : Nat) {c : Nat} (w : World) (hnc : n ≤ c) (hA : AA w1 a1 ar n1 (Globe.validL ar)) (e1 : Ext w1 w) (hP : PcsAt w2 a n ps) (e2 : Ext w2 w) (hT : Tab w) (hv : Prod.validP id ver ar ps = true) : Calls Tryd.prog 17 #[.agg #[.int .i64 id, .int .i64 ver, .slice a1 n1 c1, .slice a n c]] w fun e w' => e = .returned (.bool (Prod.validP id ver ar ps && Prod.noC (Prod.rest ar ps))) ∧ Ext w w' := by
 replace hA := hA.ext e1; replace hP := hP.ext e2; have hnb := hP.max; have hln := hP.len; clear e1 e2
 refine calls_cw 17 [(0, .agg #[.int .i64 id, .int .i64 ver, .slice a1 n1 c1, .slice a n c])] Tryd.func17 rfl Tryd.ntmps17 (by kernel_rfl) (by kernel_rfl) (fun L => ?_)
 have hE : Ext w w := Ext.refl w
 refine cw_seq ?_; refine cw_plain ?_
 refine pS (sn_new (us := #[.int .i64 id, .int .i64 ver, .slice a1 n1 c1, .slice a n c]) (t := 31) (by kernel_rfl) ?_)
 intro O1 X2 hzO1 hyO1 hb hbx; have ⟨bO1_0, bO1_1, bO1_2, bO1_3⟩ := bx4 hbx; clear hbx
 replace hE := hE.trans hb; have hs3 := hb.size; clear hb; have lt4 := bO1_0.lt; refine pT (.bool false) ?_; refine pl_nil ?_; refine qw_then ?_; refine cw_seq ?_; refine cw_plain ?_
 refine pU (.agg #[.int .i64 id, .int .i64 ver, .slice a1 n1 c1, .slice a n c]) (ex_load rfl (by kernel_rfl) (ld31 (bO1_0.1) (bO1_1.1) (bO1_2.1) (bO1_3.1))) ?_
 refine pS (sn_call (f := 12) (args := #[.agg #[.int .i64 id, .int .i64 ver, .slice a1 n1 c1, .slice a n c]]) (by kernel_rfl) ((Missing_v (id := id) (ver := ver) _ _ (by omega) (aa_q (hA)) hE (hP) hE (hT.ext hE) hv).mono ?_))
 rintro e w9 ⟨B5, o6, k7, rfl, hv8, hb⟩
 replace hE := hE.trans hb; replace bO1_0 := BoxAt.ext hb bO1_0; replace bO1_1 := BoxAt.ext hb bO1_1; replace bO1_2 := BoxAt.ext hb bO1_2; replace bO1_3 := BoxAt.ext hb bO1_3; have hs10 := hb.size; clear hb; have lt11 := hv8.lt
 refine ⟨_, rfl, ?_⟩
 refine pT (.tuple #[.agg #[.slice (some ⟨B5, o6, none⟩) 24 k7], .int .i64 0]) ?_; refine pT (.agg #[.slice (some ⟨B5, o6, none⟩) 24 k7]) ?_; refine pT (.int .i64 0) ?_
 refine pS (sn_new (us := #[.slice none 0 0]) (t := 26) (by kernel_rfl) ?_)
 intro O12 X13 hzO12 hyO12 hb hbx; have bO12_0 := bx1 hbx; clear hbx
 replace hE := hE.trans hb; replace bO1_0 := BoxAt.ext hb bO1_0; replace bO1_1 := BoxAt.ext hb bO1_1; replace bO1_2 := BoxAt.ext hb bO1_2; replace bO1_3 := BoxAt.ext hb bO1_3; replace hv8 := hv8.ext hb; have hs14 := hb.size; clear hb; have lt15 := bO12_0.lt
 refine pP (sn_set (O := O12) (j := 0) (v := .slice (some ⟨B5, o6, none⟩) 24 k7) (ex_store (p := .pointer (some ⟨O12, 0, none⟩)) (v := .agg #[.slice (some ⟨B5, o6, none⟩) 24 k7]) rfl (by kernel_rfl) (by kernel_rfl) (st26 bO12_0.1 bO12_0.2)) bO12_0 ?_)
 intro X16 ho hv0 hk; replace hE := ho.ext hE (T (T hs3 hs10) (Nat.le_of_eq hzO12))
 have q9 := fun (j : Nat) (v : Value) (h : BoxAt _ O1 j v) => ho.box (Nat.ne_of_gt (Nat.lt_of_lt_of_le lt4 (T hs10 (Nat.le_of_eq hzO12)))) h
 replace bO1_0 := q9 _ _ bO1_0; replace bO1_1 := q9 _ _ bO1_1; replace bO1_2 := q9 _ _ bO1_2; replace bO1_3 := q9 _ _ bO1_3; clear q9; replace hv8 := ho.va (Nat.ne_of_gt (Nat.lt_of_lt_of_le lt11 (Nat.le_of_eq hzO12))) hv8; have hs17 : X13.heap.size ≤ X16.heap.size := Nat.le_of_eq ho.size.symm; clear ho hk bO12_0; have bO12_0 := hv0; clear hv0; refine pT (.int .i64 0) ?_; refine pl_nil ?_; refine qw_then ?_; refine cw_seq ?_; refine cw_plain ?_; refine pT (.int .i64 0) ?_; refine pT (.bool true) ?_; refine pT (.bool true) ?_
 refine pU (.agg #[.slice (some ⟨B5, o6, none⟩) 24 k7]) (ex_load rfl (by kernel_rfl) (ld26 (bO12_0.1))) ?_
 refine pS (sn_call (f := 18) (args := #[.agg #[.slice (some ⟨B5, o6, none⟩) 24 k7]]) (by kernel_rfl) ((Count_v _ _ hv8 (Ext.refl _) (hT.ext hE)).mono ?_))
 rintro e w18 ⟨rfl, hb⟩
 replace hE := hE.trans hb; replace bO1_0 := BoxAt.ext hb bO1_0; replace bO1_1 := BoxAt.ext hb bO1_1; replace bO1_2 := BoxAt.ext hb bO1_2; replace bO1_3 := BoxAt.ext hb bO1_3; replace hv8 := hv8.ext hb; replace bO12_0 := BoxAt.ext hb bO12_0; have hs19 := hb.size; clear hb
 refine ⟨_, rfl, ?_⟩
 by_cases hc20 : ((((Globe.cellsTo (Prod.rest ar ps) 24).length : Nat) : Int) : Int) = (0 : Int)
 ·
  refine pU (.bool true) (ev_eq (show _ = Result.ok (Next.value (Value.bool (((((Globe.cellsTo (Prod.rest ar ps) 24).length : Nat) : Int) : Int) == (0 : Int)))) _ from by kernel_rfl) (hc20)) ?_
  refine pT (.bool true) ?_; refine pT (.bool true) ?_; refine pl_nil ?_; refine qw_then ?_; refine cC1 2 (fun L => ?_)
  refine cw_ret ?_
  refine qw_ret [.bool true] rfl ⟨(by kernel_rfl), trivial⟩ ?_
  exact ⟨congrArg (fun b => Ending.returned (Value.bool b)) (show (Prod.validP id ver ar ps && Prod.noC (Prod.rest ar ps)) = true by rw [hv, Bool.true_and]; unfold Prod.noC; rw [decide_eq_true_eq]; omega).symm, hE⟩
 ·
  refine pU (.bool false) (ev_neq (show _ = Result.ok (Next.value (Value.bool (((((Globe.cellsTo (Prod.rest ar ps) 24).length : Nat) : Int) : Int) == (0 : Int)))) _ from by kernel_rfl) (hc20)) ?_
  refine pT (.bool false) ?_; refine pT (.bool false) ?_; refine pl_nil ?_; refine qw_then ?_; refine cC1 2 (fun L => ?_)
  refine cw_ret ?_
  refine qw_ret [.bool false] rfl ⟨(by kernel_rfl), trivial⟩ ?_
  exact ⟨congrArg (fun b => Ending.returned (Value.bool b)) (show (Prod.validP id ver ar ps && Prod.noC (Prod.rest ar ps)) = false by rw [hv, Bool.true_and]; unfold Prod.noC; rw [decide_eq_false_iff_not]; omega).symm, hE⟩
set_option maxRecDepth 1000000 in
set_option maxHeartbeats 4000000 in
theorem Complete_f {w1 w2 : World} {id ver : Int} {ar : List Int} {ps : List Prod.Pc} {a1 a : Option Addr} {n1 n : Nat} (c1 : Nat) {c : Nat} (w : World) (hnc : n ≤ c) (hA : AA w1 a1 ar n1 (Globe.validL ar)) (e1 : Ext w1 w) (hP : PcsAt w2 a n ps) (e2 : Ext w2 w) (hT : Tab w) (hv : Prod.validP id ver ar ps = false) : Calls Tryd.prog 17 #[.agg #[.int .i64 id, .int .i64 ver, .slice a1 n1 c1, .slice a n c]] w fun e w' => e = .returned (.bool (Prod.validP id ver ar ps && Prod.noC (Prod.rest ar ps))) ∧ Ext w w' := by
 replace hA := hA.ext e1; replace hP := hP.ext e2; have hnb := hP.max; have hln := hP.len; clear e1 e2
 refine calls_cw 17 [(0, .agg #[.int .i64 id, .int .i64 ver, .slice a1 n1 c1, .slice a n c])] Tryd.func17 rfl Tryd.ntmps17 (by kernel_rfl) (by kernel_rfl) (fun L => ?_)
 have hE : Ext w w := Ext.refl w
 refine cw_seq ?_; refine cw_plain ?_
 refine pS (sn_new (us := #[.int .i64 id, .int .i64 ver, .slice a1 n1 c1, .slice a n c]) (t := 31) (by kernel_rfl) ?_)
 intro O1 X2 hzO1 hyO1 hb hbx; have ⟨bO1_0, bO1_1, bO1_2, bO1_3⟩ := bx4 hbx; clear hbx
 replace hE := hE.trans hb; have hs3 := hb.size; clear hb; have lt4 := bO1_0.lt; refine pT (.bool false) ?_; refine pl_nil ?_; refine qw_then ?_; refine cw_seq ?_; refine cw_plain ?_
 refine pU (.agg #[.int .i64 id, .int .i64 ver, .slice a1 n1 c1, .slice a n c]) (ex_load rfl (by kernel_rfl) (ld31 (bO1_0.1) (bO1_1.1) (bO1_2.1) (bO1_3.1))) ?_
 refine pS (sn_call (f := 12) (args := #[.agg #[.int .i64 id, .int .i64 ver, .slice a1 n1 c1, .slice a n c]]) (by kernel_rfl) ((Missing_n (id := id) (ver := ver) _ _ (by omega) (aa_q (hA)) hE (hP) hE (hT.ext hE) hv).mono ?_))
 rintro e w5 ⟨rfl, hb⟩
 replace hE := hE.trans hb; replace bO1_0 := BoxAt.ext hb bO1_0; replace bO1_1 := BoxAt.ext hb bO1_1; replace bO1_2 := BoxAt.ext hb bO1_2; replace bO1_3 := BoxAt.ext hb bO1_3; have hs6 := hb.size; clear hb
 refine ⟨_, rfl, ?_⟩
 refine pT (.tuple #[.agg #[.slice none 0 0], .int .i64 310]) ?_; refine pT (.agg #[.slice none 0 0]) ?_; refine pT (.int .i64 310) ?_
 refine pS (sn_new (us := #[.slice none 0 0]) (t := 26) (by kernel_rfl) ?_)
 intro O7 X8 hzO7 hyO7 hb hbx; have bO7_0 := bx1 hbx; clear hbx
 replace hE := hE.trans hb; replace bO1_0 := BoxAt.ext hb bO1_0; replace bO1_1 := BoxAt.ext hb bO1_1; replace bO1_2 := BoxAt.ext hb bO1_2; replace bO1_3 := BoxAt.ext hb bO1_3; have hs9 := hb.size; clear hb; have lt10 := bO7_0.lt
 refine pP (sn_set (O := O7) (j := 0) (v := .slice none 0 0) (ex_store (p := .pointer (some ⟨O7, 0, none⟩)) (v := .agg #[.slice none 0 0]) rfl (by kernel_rfl) (by kernel_rfl) (st26 bO7_0.1 bO7_0.2)) bO7_0 ?_)
 intro X11 ho hv0 hk; replace hE := ho.ext hE (T (T hs3 hs6) (Nat.le_of_eq hzO7))
 have q9 := fun (j : Nat) (v : Value) (h : BoxAt _ O1 j v) => ho.box (Nat.ne_of_gt (Nat.lt_of_lt_of_le lt4 (T hs6 (Nat.le_of_eq hzO7)))) h
 replace bO1_0 := q9 _ _ bO1_0; replace bO1_1 := q9 _ _ bO1_1; replace bO1_2 := q9 _ _ bO1_2; replace bO1_3 := q9 _ _ bO1_3; clear q9; have hs12 : X8.heap.size ≤ X11.heap.size := Nat.le_of_eq ho.size.symm; clear ho hk bO7_0; have bO7_0 := hv0; clear hv0; refine pT (.int .i64 310) ?_; refine pl_nil ?_; refine qw_then ?_; refine cw_seq ?_; refine cw_plain ?_; refine pT (.int .i64 310) ?_; refine pT (.bool false) ?_; refine pT (.bool false) ?_; refine pK ?_; refine pK ?_; refine pK ?_; refine pT (.bool false) ?_; refine pT (.bool false) ?_; refine pl_nil ?_; refine qw_then ?_; refine cC1 2 (fun L => ?_)
 refine cw_ret ?_
 refine qw_ret [.bool false] rfl ⟨(by kernel_rfl), trivial⟩ ?_
 exact ⟨congrArg (fun b => Ending.returned (Value.bool b)) (show (Prod.validP id ver ar ps && Prod.noC (Prod.rest ar ps)) = false by rw [hv]; rfl).symm, hE⟩
theorem Complete_c {w1 w2 : World} {id ver : Int} {ar : List Int} {ps : List Prod.Pc} {a1 a : Option Addr} {n1 n : Nat} (c1 : Nat) {c : Nat} (w : World) (hnc : n ≤ c) (hA : AA w1 a1 ar n1 (Globe.validL ar)) (e1 : Ext w1 w) (hP : PcsAt w2 a n ps) (e2 : Ext w2 w) (hT : Tab w) : Calls Tryd.prog 17 #[.agg #[.int .i64 id, .int .i64 ver, .slice a1 n1 c1, .slice a n c]] w fun e w' => e = .returned (.bool (Prod.validP id ver ar ps && Prod.noC (Prod.rest ar ps))) ∧ Ext w w' := by
 cases hv : Prod.validP id ver ar ps
 · rw [← hv]; exact Complete_f c1 w hnc hA e1 hP e2 hT hv
 · rw [← hv]; exact Complete_t c1 w hnc hA e1 hP e2 hT hv
set_option maxRecDepth 1000000 in
set_option maxHeartbeats 4000000 in
theorem made_t {w1 w2 : World} {id v0 ver : Int} {x1 x2 : Option Addr} {m1 q1 m2 q2 : Nat} {ar : List Int} {b o : Nat} {a : Option Addr} {n : Nat} {l : List Prod.Pc} (k c : Nat) (w : World) (hv : VA w1 b o ar) (e1 : Ext w1 w) (h : PcsAt w2 a n l) (e2 : Ext w2 w) (hn : n ≤ 100) (hd : Prod.Dist l) (hok : ∀ p ∈ l, Globe.validL p.rw = true) (hT : Tab w) (hvp : Prod.validP id ver ar (Prod.divide ar l) = true) :
  Calls Tryd.prog 35 #[.agg #[.int .i64 id, .int .i64 v0, .slice x1 m1 q1, .slice x2 m2 q2], .int .i64 ver, .agg #[.slice (some ⟨b, o, none⟩) 24 k], .slice a n c] w (RetPrd w id ver ar (Prod.divide ar l)) := by
 replace hv := hv.ext e1; replace h := h.ext e2; have ltb := hv.lt; clear e1 e2
 refine calls_cw 26 [(3, .slice a n c), (2, .agg #[.slice (some ⟨b, o, none⟩) 24 k]), (1, .int .i64 ver), (0, .agg #[.int .i64 id, .int .i64 v0, .slice x1 m1 q1, .slice x2 m2 q2])] Tryd.func35 rfl Tryd.ntmps35 (by kernel_rfl) (by kernel_rfl) (fun L => ?_)
 have hE : Ext w w := Ext.refl w
 refine cw_seq ?_; refine cw_plain ?_
 refine pS (sn_new (us := #[.int .i64 id, .int .i64 v0, .slice x1 m1 q1, .slice x2 m2 q2]) (t := 31) (by kernel_rfl) ?_)
 intro O1 X2 hzO1 hyO1 hb hbx; have ⟨bO1_0, bO1_1, bO1_2, bO1_3⟩ := bx4 hbx; clear hbx
 replace hE := hE.trans hb; have hs3 := hb.size; clear hb; have lt4 := bO1_0.lt
 refine pS (sn_new (us := #[.slice (some ⟨b, o, none⟩) 24 k]) (t := 26) (by kernel_rfl) ?_)
 intro O5 X6 hzO5 hyO5 hb hbx; have bO5_0 := bx1 hbx; clear hbx
 replace hE := hE.trans hb; replace bO1_0 := BoxAt.ext hb bO1_0; replace bO1_1 := BoxAt.ext hb bO1_1; replace bO1_2 := BoxAt.ext hb bO1_2; replace bO1_3 := BoxAt.ext hb bO1_3; have hs7 := hb.size; clear hb; have lt8 := bO5_0.lt
 refine pS (sn_new (us := #[.int .i64 0, .int .i64 0, .slice none 0 0, .slice none 0 0]) (t := 31) (by kernel_rfl) ?_)
 intro O9 X10 hzO9 hyO9 hb hbx; have ⟨bO9_0, bO9_1, bO9_2, bO9_3⟩ := bx4 hbx; clear hbx
 replace hE := hE.trans hb; replace bO1_0 := BoxAt.ext hb bO1_0; replace bO1_1 := BoxAt.ext hb bO1_1; replace bO1_2 := BoxAt.ext hb bO1_2; replace bO1_3 := BoxAt.ext hb bO1_3; replace bO5_0 := BoxAt.ext hb bO5_0; have hs11 := hb.size; clear hb; have lt12 := bO9_0.lt; refine pT (.int .i64 0) ?_; refine pl_nil ?_; refine qw_then ?_; refine cw_seq ?_
 refine cw_join (fun ws' Y => ∃ B15 : Nat, ∃ k16 : Nat, ∃ a22 : Option Addr, ∃ n23 : Nat, ∃ c24 : Nat, ws' = [(4, .pointer (some ⟨O1, 0, none⟩)), (8, .pointer (some ⟨O9, 0, none⟩))] ∧ Ext w Y ∧ BoxAt Y O5 0 (.slice (some ⟨b, o, none⟩) 24 k) ∧ BoxAt Y O9 0 (.int .i64 0) ∧ BoxAt Y O9 1 (.int .i64 0) ∧ BoxAt Y O9 2 (.slice none 0 0) ∧ BoxAt Y O9 3 (.slice none 0 0) ∧ VA Y B15 0 ar ∧ n23 ≤ c24 ∧ Pl a22 ∧ PcsS (fun k => X10.heap.size ≤ k) Y a22 n23 (Prod.divide ar l) ∧ BoxAt Y O1 0 (.int .i64 id) ∧ BoxAt Y O1 1 (.int .i64 ver) ∧ BoxAt Y O1 2 (.slice (some ⟨B15, 0, none⟩) 24 k16) ∧ BoxAt Y O1 3 (.slice a22 n23 c24) ∧ X10.heap.size ≤ Y.heap.size ∧ X10.heap.size ≤ B15) (fun hJ => ?_) ?_
 ·
  refine cw_draw [(some 10, [4], []), (some 11, [10], [0]), (some 12, [1], []), (some 13, [6], []), (some 14, [13], [3]), (some 15, [14], [4]), (some 16, [15], [5]), (some 17, [6], []), (some 18, [3], []), (some 19, [17, 18], [7, 8, 5]), (some 20, [11, 12, 16, 19], [1, 2, 6, 9]), (none, [4, 20], [10, 9, 0, 1, 2, 3, 4, 5, 6, 7, 8, 9, 10])] (fun w' => w'.cell? ⟨O5, 0, none⟩ = some (.slice (some ⟨b, o, none⟩) 24 k)) (by kernel_rfl) (by kernel_rfl) (by kernel_rfl) (by kernel_rfl) ((calm_then calm_body)) (bO5_0.1) (fun ops Q X13 hb hL hR hK => ?_)
  replace hE := hE.trans hb; replace bO1_0 := BoxAt.ext hb bO1_0; replace bO1_1 := BoxAt.ext hb bO1_1; replace bO1_2 := BoxAt.ext hb bO1_2; replace bO1_3 := BoxAt.ext hb bO1_3; replace bO5_0 := BoxAt.ext hb bO5_0; replace bO9_0 := BoxAt.ext hb bO9_0; replace bO9_1 := BoxAt.ext hb bO9_1; replace bO9_2 := BoxAt.ext hb bO9_2; replace bO9_3 := BoxAt.ext hb bO9_3; have hs14 := hb.size; clear hb
  refine wT 0 (.pointer (some ⟨O1, 0, none⟩)) hR (fun w _ => by kernel_rfl) (bO5_0.1) ?_
  refine wT 2 (.int .i64 ver) hR (fun w _ => by kernel_rfl) (bO5_0.1) ?_
  refine wT 3 (.pointer (some ⟨O5, 0, none⟩)) hR (fun w _ => by kernel_rfl) (bO5_0.1) ?_
  refine wT 4 (.slice (some ⟨b, o, none⟩) 24 k) hR (fun w hS => ex_load rfl (by kernel_rfl) (ld24 (hS))) (bO5_0.1) ?_
  refine wT 7 (.agg #[.slice (some ⟨b, o, none⟩) 24 k]) hR (fun w hS => ex_load rfl (by kernel_rfl) (ld26 (hS))) (bO5_0.1) ?_
  refine wT 8 (.slice a n c) hR (fun w _ => by kernel_rfl) (bO5_0.1) ?_
  refine wd_two 1 5 hR rfl rfl (by kernel_rfl) (by kernel_rfl) (by kernel_rfl) (by kernel_rfl) ?_ ?_
  ·
   refine sn_eff (v := .int .i64 id) (w' := X13) (ex_load rfl (by kernel_rfl) (ld3 (bO1_0.1))) ⟨bO5_0.1, ?_⟩
   refine wS 5 hR (sn_call (f := 36) (args := #[.slice (some ⟨b, o, none⟩) 24 k]) (by kernel_rfl) ((Clone_v _ _ hv hE).mono ?_))
   rintro e w19 ⟨B15, k16, rfl, hn17, hr18, hb⟩
   replace hE := hE.trans hb; replace bO1_0 := BoxAt.ext hb bO1_0; replace bO1_1 := BoxAt.ext hb bO1_1; replace bO1_2 := BoxAt.ext hb bO1_2; replace bO1_3 := BoxAt.ext hb bO1_3; replace bO5_0 := BoxAt.ext hb bO5_0; replace bO9_0 := BoxAt.ext hb bO9_0; replace bO9_1 := BoxAt.ext hb bO9_1; replace bO9_2 := BoxAt.ext hb bO9_2; replace bO9_3 := BoxAt.ext hb bO9_3; have hs20 := hb.size; clear hb
   have hr18v := hr18.va hv.2
   have lt21 := hr18v.lt
   refine ⟨_, rfl, bO5_0.1, ?_⟩
   refine wT 6 (.agg #[.slice (some ⟨B15, 0, none⟩) 24 k16]) hR (fun w _ => by kernel_rfl) (bO5_0.1) ?_
   refine wS 9 hR (sn_call (f := 44) (args := #[.agg #[.slice (some ⟨b, o, none⟩) 24 k], .slice a n c]) (by kernel_rfl) ((divide_c _ _ _ (h) hE hv hE (by omega) hd (hT.ext hE) hok).mono ?_))
   rintro e w28 ⟨a22, n23, c24, rfl, hP25, hnc26, hpl27, hb⟩
   replace hE := hE.trans hb; replace bO1_0 := BoxAt.ext hb bO1_0; replace bO1_1 := BoxAt.ext hb bO1_1; replace bO1_2 := BoxAt.ext hb bO1_2; replace bO1_3 := BoxAt.ext hb bO1_3; replace bO5_0 := BoxAt.ext hb bO5_0; replace bO9_0 := BoxAt.ext hb bO9_0; replace bO9_1 := BoxAt.ext hb bO9_1; replace bO9_2 := BoxAt.ext hb bO9_2; replace bO9_3 := BoxAt.ext hb bO9_3; replace hr18v := hr18v.ext hb; have hs29 := hb.size; clear hb
   have hP25r := PcsS.mono (T := fun k => X10.heap.size ≤ k) hP25 (fun k hk => T (T hs14 hs20) hk)
   refine ⟨_, rfl, bO5_0.1, ?_⟩
   refine wT 10 (.agg #[.int .i64 id, .int .i64 ver, .slice (some ⟨B15, 0, none⟩) 24 k16, .slice a22 n23 c24]) hR (fun w _ => by kernel_rfl) (bO5_0.1) ?_
   refine wS 11 hR (sn_setK4 (O := O1) (j := 0) (v0 := .int .i64 id) (v1 := .int .i64 ver) (v2 := .slice (some ⟨B15, 0, none⟩) 24 k16) (v3 := .slice a22 n23 c24) (ex_store (p := .pointer (some ⟨O1, 0, none⟩)) (v := .agg #[.int .i64 id, .int .i64 ver, .slice (some ⟨B15, 0, none⟩) 24 k16, .slice a22 n23 c24]) rfl (by kernel_rfl) (by kernel_rfl) (st31 bO1_0.1 bO1_0.2 bO1_1.1 bO1_1.2 bO1_2.1 bO1_2.2 bO1_3.1 bO1_3.2)) bO1_0 bO1_1 bO1_2 bO1_3 ?_)
   intro X30 ho hv0 hv1 hv2 hv3 hk; replace hE := ho.ext hE (Nat.le_of_eq hzO1); replace bO5_0 := ho.box (Nat.ne_of_lt (Nat.lt_of_lt_of_le lt4 (Nat.le_of_eq hzO5))) bO5_0
   have q9 := fun (j : Nat) (v : Value) (h : BoxAt _ O9 j v) => ho.box (Nat.ne_of_lt (Nat.lt_of_lt_of_le lt4 (T hs7 (Nat.le_of_eq hzO9)))) h
   replace bO9_0 := q9 _ _ bO9_0; replace bO9_1 := q9 _ _ bO9_1; replace bO9_2 := q9 _ _ bO9_2; replace bO9_3 := q9 _ _ bO9_3; clear q9; replace hr18v := ho.va (Nat.ne_of_lt (Nat.lt_of_lt_of_le lt4 (T (T hs7 (T hs11 hs14)) hn17))) hr18v; replace hP25r := hP25r.turn ho (Nat.not_le_of_lt (Nat.lt_of_lt_of_le lt4 (T hs7 hs11))); have hs31 : w28.heap.size ≤ X30.heap.size := Nat.le_of_eq ho.size.symm; clear ho hk bO1_0 bO1_1 bO1_2 bO1_3; have bO1_0 := hv0; clear hv0; have bO1_1 := hv1; clear hv1; have bO1_2 := hv2; clear hv2; have bO1_3 := hv3; clear hv3
   refine ⟨bO5_0.1, ?_⟩
   refine wd_end hL hR hK (by kernel_rfl) ?_
   exact qw_leaf hJ [4, 8] (ws' := [(4, .pointer (some ⟨O1, 0, none⟩)), (8, .pointer (some ⟨O9, 0, none⟩))]) (by kernel_rfl) ⟨B15, k16, a22, n23, c24, rfl, hE, bO5_0, bO9_0, bO9_1, bO9_2, bO9_3, hr18v, hnc26, hpl27, hP25r, bO1_0, bO1_1, bO1_2, bO1_3, (T hs14 (T hs20 (T hs29 hs31))), (T hs14 hn17)⟩
  ·
   refine sn_call (f := 36) (args := #[.slice (some ⟨b, o, none⟩) 24 k]) (by kernel_rfl) ((Clone_v _ _ hv hE).mono ?_)
   rintro e w36 ⟨B32, k33, rfl, hn34, hr35, hb⟩
   replace hE := hE.trans hb; replace bO1_0 := BoxAt.ext hb bO1_0; replace bO1_1 := BoxAt.ext hb bO1_1; replace bO1_2 := BoxAt.ext hb bO1_2; replace bO1_3 := BoxAt.ext hb bO1_3; replace bO5_0 := BoxAt.ext hb bO5_0; replace bO9_0 := BoxAt.ext hb bO9_0; replace bO9_1 := BoxAt.ext hb bO9_1; replace bO9_2 := BoxAt.ext hb bO9_2; replace bO9_3 := BoxAt.ext hb bO9_3; have hs37 := hb.size; clear hb
   have hr35v := hr35.va hv.2
   have lt38 := hr35v.lt
   refine ⟨_, rfl, bO5_0.1, ?_⟩
   refine wT 6 (.agg #[.slice (some ⟨B32, 0, none⟩) 24 k33]) hR (fun w _ => by kernel_rfl) (bO5_0.1) ?_
   refine wd_two 1 9 hR rfl rfl (by kernel_rfl) (by kernel_rfl) (by kernel_rfl) (by kernel_rfl) ?_ ?_
   ·
    refine sn_eff (v := .int .i64 id) (w' := w36) (ex_load rfl (by kernel_rfl) (ld3 (bO1_0.1))) ⟨bO5_0.1, ?_⟩
    refine wS 9 hR (sn_call (f := 44) (args := #[.agg #[.slice (some ⟨b, o, none⟩) 24 k], .slice a n c]) (by kernel_rfl) ((divide_c _ _ _ (h) hE hv hE (by omega) hd (hT.ext hE) hok).mono ?_))
    rintro e w45 ⟨a39, n40, c41, rfl, hP42, hnc43, hpl44, hb⟩
    replace hE := hE.trans hb; replace bO1_0 := BoxAt.ext hb bO1_0; replace bO1_1 := BoxAt.ext hb bO1_1; replace bO1_2 := BoxAt.ext hb bO1_2; replace bO1_3 := BoxAt.ext hb bO1_3; replace bO5_0 := BoxAt.ext hb bO5_0; replace bO9_0 := BoxAt.ext hb bO9_0; replace bO9_1 := BoxAt.ext hb bO9_1; replace bO9_2 := BoxAt.ext hb bO9_2; replace bO9_3 := BoxAt.ext hb bO9_3; replace hr35v := hr35v.ext hb; have hs46 := hb.size; clear hb
    have hP42r := PcsS.mono (T := fun k => X10.heap.size ≤ k) hP42 (fun k hk => T (T hs14 hs37) hk)
    refine ⟨_, rfl, bO5_0.1, ?_⟩
    refine wT 10 (.agg #[.int .i64 id, .int .i64 ver, .slice (some ⟨B32, 0, none⟩) 24 k33, .slice a39 n40 c41]) hR (fun w _ => by kernel_rfl) (bO5_0.1) ?_
    refine wS 11 hR (sn_setK4 (O := O1) (j := 0) (v0 := .int .i64 id) (v1 := .int .i64 ver) (v2 := .slice (some ⟨B32, 0, none⟩) 24 k33) (v3 := .slice a39 n40 c41) (ex_store (p := .pointer (some ⟨O1, 0, none⟩)) (v := .agg #[.int .i64 id, .int .i64 ver, .slice (some ⟨B32, 0, none⟩) 24 k33, .slice a39 n40 c41]) rfl (by kernel_rfl) (by kernel_rfl) (st31 bO1_0.1 bO1_0.2 bO1_1.1 bO1_1.2 bO1_2.1 bO1_2.2 bO1_3.1 bO1_3.2)) bO1_0 bO1_1 bO1_2 bO1_3 ?_)
    intro X47 ho hv0 hv1 hv2 hv3 hk; replace hE := ho.ext hE (Nat.le_of_eq hzO1); replace bO5_0 := ho.box (Nat.ne_of_lt (Nat.lt_of_lt_of_le lt4 (Nat.le_of_eq hzO5))) bO5_0
    have q9 := fun (j : Nat) (v : Value) (h : BoxAt _ O9 j v) => ho.box (Nat.ne_of_lt (Nat.lt_of_lt_of_le lt4 (T hs7 (Nat.le_of_eq hzO9)))) h
    replace bO9_0 := q9 _ _ bO9_0; replace bO9_1 := q9 _ _ bO9_1; replace bO9_2 := q9 _ _ bO9_2; replace bO9_3 := q9 _ _ bO9_3; clear q9; replace hr35v := ho.va (Nat.ne_of_lt (Nat.lt_of_lt_of_le lt4 (T (T hs7 (T hs11 hs14)) hn34))) hr35v; replace hP42r := hP42r.turn ho (Nat.not_le_of_lt (Nat.lt_of_lt_of_le lt4 (T hs7 hs11))); have hs48 : w45.heap.size ≤ X47.heap.size := Nat.le_of_eq ho.size.symm; clear ho hk bO1_0 bO1_1 bO1_2 bO1_3; have bO1_0 := hv0; clear hv0; have bO1_1 := hv1; clear hv1; have bO1_2 := hv2; clear hv2; have bO1_3 := hv3; clear hv3
    refine ⟨bO5_0.1, ?_⟩
    refine wd_end hL hR hK (by kernel_rfl) ?_
    exact qw_leaf hJ [4, 8] (ws' := [(4, .pointer (some ⟨O1, 0, none⟩)), (8, .pointer (some ⟨O9, 0, none⟩))]) (by kernel_rfl) ⟨B32, k33, a39, n40, c41, rfl, hE, bO5_0, bO9_0, bO9_1, bO9_2, bO9_3, hr35v, hnc43, hpl44, hP42r, bO1_0, bO1_1, bO1_2, bO1_3, (T hs14 (T hs37 (T hs46 hs48))), (T hs14 hn34)⟩
   ·
    refine sn_call (f := 44) (args := #[.agg #[.slice (some ⟨b, o, none⟩) 24 k], .slice a n c]) (by kernel_rfl) ((divide_c _ _ _ (h) hE hv hE (by omega) hd (hT.ext hE) hok).mono ?_)
    rintro e w55 ⟨a49, n50, c51, rfl, hP52, hnc53, hpl54, hb⟩
    replace hE := hE.trans hb; replace bO1_0 := BoxAt.ext hb bO1_0; replace bO1_1 := BoxAt.ext hb bO1_1; replace bO1_2 := BoxAt.ext hb bO1_2; replace bO1_3 := BoxAt.ext hb bO1_3; replace bO5_0 := BoxAt.ext hb bO5_0; replace bO9_0 := BoxAt.ext hb bO9_0; replace bO9_1 := BoxAt.ext hb bO9_1; replace bO9_2 := BoxAt.ext hb bO9_2; replace bO9_3 := BoxAt.ext hb bO9_3; replace hr35v := hr35v.ext hb; have hs56 := hb.size; clear hb
    have hP52r := PcsS.mono (T := fun k => X10.heap.size ≤ k) hP52 (fun k hk => T (T hs14 hs37) hk)
    refine ⟨_, rfl, bO5_0.1, ?_⟩
    refine wS 1 hR (sn_eff (v := .int .i64 id) (w' := w55) (ex_load rfl (by kernel_rfl) (ld3 (bO1_0.1))) ⟨bO5_0.1, ?_⟩)
    refine wT 10 (.agg #[.int .i64 id, .int .i64 ver, .slice (some ⟨B32, 0, none⟩) 24 k33, .slice a49 n50 c51]) hR (fun w _ => by kernel_rfl) (bO5_0.1) ?_
    refine wS 11 hR (sn_setK4 (O := O1) (j := 0) (v0 := .int .i64 id) (v1 := .int .i64 ver) (v2 := .slice (some ⟨B32, 0, none⟩) 24 k33) (v3 := .slice a49 n50 c51) (ex_store (p := .pointer (some ⟨O1, 0, none⟩)) (v := .agg #[.int .i64 id, .int .i64 ver, .slice (some ⟨B32, 0, none⟩) 24 k33, .slice a49 n50 c51]) rfl (by kernel_rfl) (by kernel_rfl) (st31 bO1_0.1 bO1_0.2 bO1_1.1 bO1_1.2 bO1_2.1 bO1_2.2 bO1_3.1 bO1_3.2)) bO1_0 bO1_1 bO1_2 bO1_3 ?_)
    intro X57 ho hv0 hv1 hv2 hv3 hk; replace hE := ho.ext hE (Nat.le_of_eq hzO1); replace bO5_0 := ho.box (Nat.ne_of_lt (Nat.lt_of_lt_of_le lt4 (Nat.le_of_eq hzO5))) bO5_0
    have q9 := fun (j : Nat) (v : Value) (h : BoxAt _ O9 j v) => ho.box (Nat.ne_of_lt (Nat.lt_of_lt_of_le lt4 (T hs7 (Nat.le_of_eq hzO9)))) h
    replace bO9_0 := q9 _ _ bO9_0; replace bO9_1 := q9 _ _ bO9_1; replace bO9_2 := q9 _ _ bO9_2; replace bO9_3 := q9 _ _ bO9_3; clear q9; replace hr35v := ho.va (Nat.ne_of_lt (Nat.lt_of_lt_of_le lt4 (T (T hs7 (T hs11 hs14)) hn34))) hr35v; replace hP52r := hP52r.turn ho (Nat.not_le_of_lt (Nat.lt_of_lt_of_le lt4 (T hs7 hs11))); have hs58 : w55.heap.size ≤ X57.heap.size := Nat.le_of_eq ho.size.symm; clear ho hk bO1_0 bO1_1 bO1_2 bO1_3; have bO1_0 := hv0; clear hv0; have bO1_1 := hv1; clear hv1; have bO1_2 := hv2; clear hv2; have bO1_3 := hv3; clear hv3
    refine ⟨bO5_0.1, ?_⟩
    refine wd_end hL hR hK (by kernel_rfl) ?_
    exact qw_leaf hJ [4, 8] (ws' := [(4, .pointer (some ⟨O1, 0, none⟩)), (8, .pointer (some ⟨O9, 0, none⟩))]) (by kernel_rfl) ⟨B32, k33, a49, n50, c51, rfl, hE, bO5_0, bO9_0, bO9_1, bO9_2, bO9_3, hr35v, hnc53, hpl54, hP52r, bO1_0, bO1_1, bO1_2, bO1_3, (T hs14 (T hs37 (T hs56 hs58))), (T hs14 hn34)⟩
 ·
  clear bO1_0 bO1_1 bO1_2 bO1_3 bO5_0 bO9_0 bO9_1 bO9_2 bO9_3 hE
  rintro L ws Y59 ⟨B15, k16, a22, n23, c24, rfl, hE, bO5_0, bO9_0, bO9_1, bO9_2, bO9_3, hr18v, hnc26, hpl27, hP25r, bO1_0, bO1_1, bO1_2, bO1_3, hn60, hn61⟩
  have lt62 := hr18v.lt; refine qw_then ?_; refine cw_seq ?_; refine cw_seq ?_; refine cw_plain ?_
  refine pU (.agg #[.int .i64 id, .int .i64 ver, .slice (some ⟨B15, 0, none⟩) 24 k16, .slice a22 n23 c24]) (ex_load rfl (by kernel_rfl) (ld31 (bO1_0.1) (bO1_1.1) (bO1_2.1) (bO1_3.1))) ?_
  refine pS (sn_call (f := 28) (args := #[.agg #[.int .i64 id, .int .i64 ver, .slice (some ⟨B15, 0, none⟩) 24 k16, .slice a22 n23 c24]]) (by kernel_rfl) ((pValid_r (id := id) (ver := ver) (r := true) _ _ (by omega) (aa_q (hr18v.aa)) (Ext.refl _) (hP25r.pcs) (Ext.refl _) (hT.ext hE) hvp).mono ?_))
  rintro e w63 ⟨rfl, hb⟩
  replace hE := hE.trans hb; replace bO5_0 := BoxAt.ext hb bO5_0; replace bO9_0 := BoxAt.ext hb bO9_0; replace bO9_1 := BoxAt.ext hb bO9_1; replace bO9_2 := BoxAt.ext hb bO9_2; replace bO9_3 := BoxAt.ext hb bO9_3; replace hr18v := hr18v.ext hb; replace hP25r := hP25r.ext hb; replace bO1_0 := BoxAt.ext hb bO1_0; replace bO1_1 := BoxAt.ext hb bO1_1; replace bO1_2 := BoxAt.ext hb bO1_2; replace bO1_3 := BoxAt.ext hb bO1_3; have hs64 := hb.size; clear hb
  refine ⟨_, rfl, ?_⟩
  refine pT (.bool false) ?_; refine pl_nil ?_; refine qw_then ?_
  refine cw_f (by kernel_rfl) ?_
  refine cw_skip ?_
  refine qw_then ?_; refine cw_seq ?_; refine cw_plain ?_
  refine pU (.agg #[.int .i64 id, .int .i64 ver, .slice (some ⟨B15, 0, none⟩) 24 k16, .slice a22 n23 c24]) (ex_load rfl (by kernel_rfl) (ld31 (bO1_0.1) (bO1_1.1) (bO1_2.1) (bO1_3.1))) ?_
  refine pP (sn_setK4 (O := O9) (j := 0) (v0 := .int .i64 id) (v1 := .int .i64 ver) (v2 := .slice (some ⟨B15, 0, none⟩) 24 k16) (v3 := .slice a22 n23 c24) (ex_store (p := .pointer (some ⟨O9, 0, none⟩)) (v := .agg #[.int .i64 id, .int .i64 ver, .slice (some ⟨B15, 0, none⟩) 24 k16, .slice a22 n23 c24]) rfl (by kernel_rfl) (by kernel_rfl) (st31 bO9_0.1 bO9_0.2 bO9_1.1 bO9_1.2 bO9_2.1 bO9_2.2 bO9_3.1 bO9_3.2)) bO9_0 bO9_1 bO9_2 bO9_3 ?_)
  intro X65 ho hv0 hv1 hv2 hv3 hk; replace hE := ho.ext hE (T (T hs3 hs7) (Nat.le_of_eq hzO9)); replace bO5_0 := ho.box (Nat.ne_of_gt (Nat.lt_of_lt_of_le lt8 (Nat.le_of_eq hzO9))) bO5_0; replace hr18v := ho.va (Nat.ne_of_lt (Nat.lt_of_lt_of_le lt12 hn61)) hr18v; replace hP25r := hP25r.turn ho (Nat.not_le_of_lt (Nat.lt_of_lt_of_le lt12 (Nat.le_refl _)))
  have q9 := fun (j : Nat) (v : Value) (h : BoxAt _ O1 j v) => ho.box (Nat.ne_of_gt (Nat.lt_of_lt_of_le lt4 (T hs7 (Nat.le_of_eq hzO9)))) h
  replace bO1_0 := q9 _ _ bO1_0; replace bO1_1 := q9 _ _ bO1_1; replace bO1_2 := q9 _ _ bO1_2; replace bO1_3 := q9 _ _ bO1_3; clear q9; have hs66 : w63.heap.size ≤ X65.heap.size := Nat.le_of_eq ho.size.symm; clear ho hk bO9_0 bO9_1 bO9_2 bO9_3; have bO9_0 := hv0; clear hv0; have bO9_1 := hv1; clear hv1; have bO9_2 := hv2; clear hv2; have bO9_3 := hv3; clear hv3; refine pT (.int .i64 0) ?_; refine pl_nil ?_; refine qw_then ?_
  refine cw_ret ?_
  refine qw_ret [.agg #[.int .i64 id, .int .i64 ver, .slice (some ⟨B15, 0, none⟩) 24 k16, .slice a22 n23 c24], .int .i64 0] rfl ⟨⟨_, by kernel_rfl, res_ld (ld31 (bO9_0.1) (bO9_1.1) (bO9_2.1) (bO9_3.1))⟩, (by kernel_rfl), trivial⟩ ?_
  exact ⟨_, _, _, _, _, _, rfl, aa_q (VA.aa (hr18v)), (fun ad e => by cases e; exact (T (T hs3 (T hs7 hs11)) hn61)), (hP25r).mono fun k hk => T (T hs3 (T hs7 hs11)) hk, by omega, hpl27, hE⟩
set_option maxRecDepth 1000000 in
set_option maxHeartbeats 4000000 in
theorem made_f {w1 w2 : World} {id v0 ver : Int} {x1 x2 : Option Addr} {m1 q1 m2 q2 : Nat} {ar : List Int} {b o : Nat} {a : Option Addr} {n : Nat} {l : List Prod.Pc} (k c : Nat) (w : World) (hv : VA w1 b o ar) (e1 : Ext w1 w) (h : PcsAt w2 a n l) (e2 : Ext w2 w) (hn : n ≤ 100) (hd : Prod.Dist l) (hok : ∀ p ∈ l, Globe.validL p.rw = true) (hT : Tab w) (hvp : Prod.validP id ver ar (Prod.divide ar l) = false) :
  Calls Tryd.prog 35 #[.agg #[.int .i64 id, .int .i64 v0, .slice x1 m1 q1, .slice x2 m2 q2], .int .i64 ver, .agg #[.slice (some ⟨b, o, none⟩) 24 k], .slice a n c] w (RetPrdErr w) := by
 replace hv := hv.ext e1; replace h := h.ext e2; have ltb := hv.lt; clear e1 e2
 refine calls_cw 26 [(3, .slice a n c), (2, .agg #[.slice (some ⟨b, o, none⟩) 24 k]), (1, .int .i64 ver), (0, .agg #[.int .i64 id, .int .i64 v0, .slice x1 m1 q1, .slice x2 m2 q2])] Tryd.func35 rfl Tryd.ntmps35 (by kernel_rfl) (by kernel_rfl) (fun L => ?_)
 have hE : Ext w w := Ext.refl w
 refine cw_seq ?_; refine cw_plain ?_
 refine pS (sn_new (us := #[.int .i64 id, .int .i64 v0, .slice x1 m1 q1, .slice x2 m2 q2]) (t := 31) (by kernel_rfl) ?_)
 intro O1 X2 hzO1 hyO1 hb hbx; have ⟨bO1_0, bO1_1, bO1_2, bO1_3⟩ := bx4 hbx; clear hbx
 replace hE := hE.trans hb; have hs3 := hb.size; clear hb; have lt4 := bO1_0.lt
 refine pS (sn_new (us := #[.slice (some ⟨b, o, none⟩) 24 k]) (t := 26) (by kernel_rfl) ?_)
 intro O5 X6 hzO5 hyO5 hb hbx; have bO5_0 := bx1 hbx; clear hbx
 replace hE := hE.trans hb; replace bO1_0 := BoxAt.ext hb bO1_0; replace bO1_1 := BoxAt.ext hb bO1_1; replace bO1_2 := BoxAt.ext hb bO1_2; replace bO1_3 := BoxAt.ext hb bO1_3; have hs7 := hb.size; clear hb; have lt8 := bO5_0.lt
 refine pS (sn_new (us := #[.int .i64 0, .int .i64 0, .slice none 0 0, .slice none 0 0]) (t := 31) (by kernel_rfl) ?_)
 intro O9 X10 hzO9 hyO9 hb hbx; have ⟨bO9_0, bO9_1, bO9_2, bO9_3⟩ := bx4 hbx; clear hbx
 replace hE := hE.trans hb; replace bO1_0 := BoxAt.ext hb bO1_0; replace bO1_1 := BoxAt.ext hb bO1_1; replace bO1_2 := BoxAt.ext hb bO1_2; replace bO1_3 := BoxAt.ext hb bO1_3; replace bO5_0 := BoxAt.ext hb bO5_0; have hs11 := hb.size; clear hb; have lt12 := bO9_0.lt; refine pT (.int .i64 0) ?_; refine pl_nil ?_; refine qw_then ?_; refine cw_seq ?_
 refine cw_join (fun ws' Y => ∃ B15 : Nat, ∃ k16 : Nat, ∃ a22 : Option Addr, ∃ n23 : Nat, ∃ c24 : Nat, ws' = [(4, .pointer (some ⟨O1, 0, none⟩)), (8, .pointer (some ⟨O9, 0, none⟩))] ∧ Ext w Y ∧ BoxAt Y O5 0 (.slice (some ⟨b, o, none⟩) 24 k) ∧ BoxAt Y O9 0 (.int .i64 0) ∧ BoxAt Y O9 1 (.int .i64 0) ∧ BoxAt Y O9 2 (.slice none 0 0) ∧ BoxAt Y O9 3 (.slice none 0 0) ∧ VA Y B15 0 ar ∧ n23 ≤ c24 ∧ Pl a22 ∧ PcsS (fun k => X10.heap.size ≤ k) Y a22 n23 (Prod.divide ar l) ∧ BoxAt Y O1 0 (.int .i64 id) ∧ BoxAt Y O1 1 (.int .i64 ver) ∧ BoxAt Y O1 2 (.slice (some ⟨B15, 0, none⟩) 24 k16) ∧ BoxAt Y O1 3 (.slice a22 n23 c24) ∧ X10.heap.size ≤ Y.heap.size ∧ X10.heap.size ≤ B15) (fun hJ => ?_) ?_
 ·
  refine cw_draw [(some 10, [4], []), (some 11, [10], [0]), (some 12, [1], []), (some 13, [6], []), (some 14, [13], [3]), (some 15, [14], [4]), (some 16, [15], [5]), (some 17, [6], []), (some 18, [3], []), (some 19, [17, 18], [7, 8, 5]), (some 20, [11, 12, 16, 19], [1, 2, 6, 9]), (none, [4, 20], [10, 9, 0, 1, 2, 3, 4, 5, 6, 7, 8, 9, 10])] (fun w' => w'.cell? ⟨O5, 0, none⟩ = some (.slice (some ⟨b, o, none⟩) 24 k)) (by kernel_rfl) (by kernel_rfl) (by kernel_rfl) (by kernel_rfl) ((calm_then calm_body)) (bO5_0.1) (fun ops Q X13 hb hL hR hK => ?_)
  replace hE := hE.trans hb; replace bO1_0 := BoxAt.ext hb bO1_0; replace bO1_1 := BoxAt.ext hb bO1_1; replace bO1_2 := BoxAt.ext hb bO1_2; replace bO1_3 := BoxAt.ext hb bO1_3; replace bO5_0 := BoxAt.ext hb bO5_0; replace bO9_0 := BoxAt.ext hb bO9_0; replace bO9_1 := BoxAt.ext hb bO9_1; replace bO9_2 := BoxAt.ext hb bO9_2; replace bO9_3 := BoxAt.ext hb bO9_3; have hs14 := hb.size; clear hb
  refine wT 0 (.pointer (some ⟨O1, 0, none⟩)) hR (fun w _ => by kernel_rfl) (bO5_0.1) ?_
  refine wT 2 (.int .i64 ver) hR (fun w _ => by kernel_rfl) (bO5_0.1) ?_
  refine wT 3 (.pointer (some ⟨O5, 0, none⟩)) hR (fun w _ => by kernel_rfl) (bO5_0.1) ?_
  refine wT 4 (.slice (some ⟨b, o, none⟩) 24 k) hR (fun w hS => ex_load rfl (by kernel_rfl) (ld24 (hS))) (bO5_0.1) ?_
  refine wT 7 (.agg #[.slice (some ⟨b, o, none⟩) 24 k]) hR (fun w hS => ex_load rfl (by kernel_rfl) (ld26 (hS))) (bO5_0.1) ?_
  refine wT 8 (.slice a n c) hR (fun w _ => by kernel_rfl) (bO5_0.1) ?_
  refine wd_two 1 5 hR rfl rfl (by kernel_rfl) (by kernel_rfl) (by kernel_rfl) (by kernel_rfl) ?_ ?_
  ·
   refine sn_eff (v := .int .i64 id) (w' := X13) (ex_load rfl (by kernel_rfl) (ld3 (bO1_0.1))) ⟨bO5_0.1, ?_⟩
   refine wS 5 hR (sn_call (f := 36) (args := #[.slice (some ⟨b, o, none⟩) 24 k]) (by kernel_rfl) ((Clone_v _ _ hv hE).mono ?_))
   rintro e w19 ⟨B15, k16, rfl, hn17, hr18, hb⟩
   replace hE := hE.trans hb; replace bO1_0 := BoxAt.ext hb bO1_0; replace bO1_1 := BoxAt.ext hb bO1_1; replace bO1_2 := BoxAt.ext hb bO1_2; replace bO1_3 := BoxAt.ext hb bO1_3; replace bO5_0 := BoxAt.ext hb bO5_0; replace bO9_0 := BoxAt.ext hb bO9_0; replace bO9_1 := BoxAt.ext hb bO9_1; replace bO9_2 := BoxAt.ext hb bO9_2; replace bO9_3 := BoxAt.ext hb bO9_3; have hs20 := hb.size; clear hb
   have hr18v := hr18.va hv.2
   have lt21 := hr18v.lt
   refine ⟨_, rfl, bO5_0.1, ?_⟩
   refine wT 6 (.agg #[.slice (some ⟨B15, 0, none⟩) 24 k16]) hR (fun w _ => by kernel_rfl) (bO5_0.1) ?_
   refine wS 9 hR (sn_call (f := 44) (args := #[.agg #[.slice (some ⟨b, o, none⟩) 24 k], .slice a n c]) (by kernel_rfl) ((divide_c _ _ _ (h) hE hv hE (by omega) hd (hT.ext hE) hok).mono ?_))
   rintro e w28 ⟨a22, n23, c24, rfl, hP25, hnc26, hpl27, hb⟩
   replace hE := hE.trans hb; replace bO1_0 := BoxAt.ext hb bO1_0; replace bO1_1 := BoxAt.ext hb bO1_1; replace bO1_2 := BoxAt.ext hb bO1_2; replace bO1_3 := BoxAt.ext hb bO1_3; replace bO5_0 := BoxAt.ext hb bO5_0; replace bO9_0 := BoxAt.ext hb bO9_0; replace bO9_1 := BoxAt.ext hb bO9_1; replace bO9_2 := BoxAt.ext hb bO9_2; replace bO9_3 := BoxAt.ext hb bO9_3; replace hr18v := hr18v.ext hb; have hs29 := hb.size; clear hb
   have hP25r := PcsS.mono (T := fun k => X10.heap.size ≤ k) hP25 (fun k hk => T (T hs14 hs20) hk)
   refine ⟨_, rfl, bO5_0.1, ?_⟩
   refine wT 10 (.agg #[.int .i64 id, .int .i64 ver, .slice (some ⟨B15, 0, none⟩) 24 k16, .slice a22 n23 c24]) hR (fun w _ => by kernel_rfl) (bO5_0.1) ?_
   refine wS 11 hR (sn_setK4 (O := O1) (j := 0) (v0 := .int .i64 id) (v1 := .int .i64 ver) (v2 := .slice (some ⟨B15, 0, none⟩) 24 k16) (v3 := .slice a22 n23 c24) (ex_store (p := .pointer (some ⟨O1, 0, none⟩)) (v := .agg #[.int .i64 id, .int .i64 ver, .slice (some ⟨B15, 0, none⟩) 24 k16, .slice a22 n23 c24]) rfl (by kernel_rfl) (by kernel_rfl) (st31 bO1_0.1 bO1_0.2 bO1_1.1 bO1_1.2 bO1_2.1 bO1_2.2 bO1_3.1 bO1_3.2)) bO1_0 bO1_1 bO1_2 bO1_3 ?_)
   intro X30 ho hv0 hv1 hv2 hv3 hk; replace hE := ho.ext hE (Nat.le_of_eq hzO1); replace bO5_0 := ho.box (Nat.ne_of_lt (Nat.lt_of_lt_of_le lt4 (Nat.le_of_eq hzO5))) bO5_0
   have q9 := fun (j : Nat) (v : Value) (h : BoxAt _ O9 j v) => ho.box (Nat.ne_of_lt (Nat.lt_of_lt_of_le lt4 (T hs7 (Nat.le_of_eq hzO9)))) h
   replace bO9_0 := q9 _ _ bO9_0; replace bO9_1 := q9 _ _ bO9_1; replace bO9_2 := q9 _ _ bO9_2; replace bO9_3 := q9 _ _ bO9_3; clear q9; replace hr18v := ho.va (Nat.ne_of_lt (Nat.lt_of_lt_of_le lt4 (T (T hs7 (T hs11 hs14)) hn17))) hr18v; replace hP25r := hP25r.turn ho (Nat.not_le_of_lt (Nat.lt_of_lt_of_le lt4 (T hs7 hs11))); have hs31 : w28.heap.size ≤ X30.heap.size := Nat.le_of_eq ho.size.symm; clear ho hk bO1_0 bO1_1 bO1_2 bO1_3; have bO1_0 := hv0; clear hv0; have bO1_1 := hv1; clear hv1; have bO1_2 := hv2; clear hv2; have bO1_3 := hv3; clear hv3
   refine ⟨bO5_0.1, ?_⟩
   refine wd_end hL hR hK (by kernel_rfl) ?_
   exact qw_leaf hJ [4, 8] (ws' := [(4, .pointer (some ⟨O1, 0, none⟩)), (8, .pointer (some ⟨O9, 0, none⟩))]) (by kernel_rfl) ⟨B15, k16, a22, n23, c24, rfl, hE, bO5_0, bO9_0, bO9_1, bO9_2, bO9_3, hr18v, hnc26, hpl27, hP25r, bO1_0, bO1_1, bO1_2, bO1_3, (T hs14 (T hs20 (T hs29 hs31))), (T hs14 hn17)⟩
  ·
   refine sn_call (f := 36) (args := #[.slice (some ⟨b, o, none⟩) 24 k]) (by kernel_rfl) ((Clone_v _ _ hv hE).mono ?_)
   rintro e w36 ⟨B32, k33, rfl, hn34, hr35, hb⟩
   replace hE := hE.trans hb; replace bO1_0 := BoxAt.ext hb bO1_0; replace bO1_1 := BoxAt.ext hb bO1_1; replace bO1_2 := BoxAt.ext hb bO1_2; replace bO1_3 := BoxAt.ext hb bO1_3; replace bO5_0 := BoxAt.ext hb bO5_0; replace bO9_0 := BoxAt.ext hb bO9_0; replace bO9_1 := BoxAt.ext hb bO9_1; replace bO9_2 := BoxAt.ext hb bO9_2; replace bO9_3 := BoxAt.ext hb bO9_3; have hs37 := hb.size; clear hb
   have hr35v := hr35.va hv.2
   have lt38 := hr35v.lt
   refine ⟨_, rfl, bO5_0.1, ?_⟩
   refine wT 6 (.agg #[.slice (some ⟨B32, 0, none⟩) 24 k33]) hR (fun w _ => by kernel_rfl) (bO5_0.1) ?_
   refine wd_two 1 9 hR rfl rfl (by kernel_rfl) (by kernel_rfl) (by kernel_rfl) (by kernel_rfl) ?_ ?_
   ·
    refine sn_eff (v := .int .i64 id) (w' := w36) (ex_load rfl (by kernel_rfl) (ld3 (bO1_0.1))) ⟨bO5_0.1, ?_⟩
    refine wS 9 hR (sn_call (f := 44) (args := #[.agg #[.slice (some ⟨b, o, none⟩) 24 k], .slice a n c]) (by kernel_rfl) ((divide_c _ _ _ (h) hE hv hE (by omega) hd (hT.ext hE) hok).mono ?_))
    rintro e w45 ⟨a39, n40, c41, rfl, hP42, hnc43, hpl44, hb⟩
    replace hE := hE.trans hb; replace bO1_0 := BoxAt.ext hb bO1_0; replace bO1_1 := BoxAt.ext hb bO1_1; replace bO1_2 := BoxAt.ext hb bO1_2; replace bO1_3 := BoxAt.ext hb bO1_3; replace bO5_0 := BoxAt.ext hb bO5_0; replace bO9_0 := BoxAt.ext hb bO9_0; replace bO9_1 := BoxAt.ext hb bO9_1; replace bO9_2 := BoxAt.ext hb bO9_2; replace bO9_3 := BoxAt.ext hb bO9_3; replace hr35v := hr35v.ext hb; have hs46 := hb.size; clear hb
    have hP42r := PcsS.mono (T := fun k => X10.heap.size ≤ k) hP42 (fun k hk => T (T hs14 hs37) hk)
    refine ⟨_, rfl, bO5_0.1, ?_⟩
    refine wT 10 (.agg #[.int .i64 id, .int .i64 ver, .slice (some ⟨B32, 0, none⟩) 24 k33, .slice a39 n40 c41]) hR (fun w _ => by kernel_rfl) (bO5_0.1) ?_
    refine wS 11 hR (sn_setK4 (O := O1) (j := 0) (v0 := .int .i64 id) (v1 := .int .i64 ver) (v2 := .slice (some ⟨B32, 0, none⟩) 24 k33) (v3 := .slice a39 n40 c41) (ex_store (p := .pointer (some ⟨O1, 0, none⟩)) (v := .agg #[.int .i64 id, .int .i64 ver, .slice (some ⟨B32, 0, none⟩) 24 k33, .slice a39 n40 c41]) rfl (by kernel_rfl) (by kernel_rfl) (st31 bO1_0.1 bO1_0.2 bO1_1.1 bO1_1.2 bO1_2.1 bO1_2.2 bO1_3.1 bO1_3.2)) bO1_0 bO1_1 bO1_2 bO1_3 ?_)
    intro X47 ho hv0 hv1 hv2 hv3 hk; replace hE := ho.ext hE (Nat.le_of_eq hzO1); replace bO5_0 := ho.box (Nat.ne_of_lt (Nat.lt_of_lt_of_le lt4 (Nat.le_of_eq hzO5))) bO5_0
    have q9 := fun (j : Nat) (v : Value) (h : BoxAt _ O9 j v) => ho.box (Nat.ne_of_lt (Nat.lt_of_lt_of_le lt4 (T hs7 (Nat.le_of_eq hzO9)))) h
    replace bO9_0 := q9 _ _ bO9_0; replace bO9_1 := q9 _ _ bO9_1; replace bO9_2 := q9 _ _ bO9_2; replace bO9_3 := q9 _ _ bO9_3; clear q9; replace hr35v := ho.va (Nat.ne_of_lt (Nat.lt_of_lt_of_le lt4 (T (T hs7 (T hs11 hs14)) hn34))) hr35v; replace hP42r := hP42r.turn ho (Nat.not_le_of_lt (Nat.lt_of_lt_of_le lt4 (T hs7 hs11))); have hs48 : w45.heap.size ≤ X47.heap.size := Nat.le_of_eq ho.size.symm; clear ho hk bO1_0 bO1_1 bO1_2 bO1_3; have bO1_0 := hv0; clear hv0; have bO1_1 := hv1; clear hv1; have bO1_2 := hv2; clear hv2; have bO1_3 := hv3; clear hv3
    refine ⟨bO5_0.1, ?_⟩
    refine wd_end hL hR hK (by kernel_rfl) ?_
    exact qw_leaf hJ [4, 8] (ws' := [(4, .pointer (some ⟨O1, 0, none⟩)), (8, .pointer (some ⟨O9, 0, none⟩))]) (by kernel_rfl) ⟨B32, k33, a39, n40, c41, rfl, hE, bO5_0, bO9_0, bO9_1, bO9_2, bO9_3, hr35v, hnc43, hpl44, hP42r, bO1_0, bO1_1, bO1_2, bO1_3, (T hs14 (T hs37 (T hs46 hs48))), (T hs14 hn34)⟩
   ·
    refine sn_call (f := 44) (args := #[.agg #[.slice (some ⟨b, o, none⟩) 24 k], .slice a n c]) (by kernel_rfl) ((divide_c _ _ _ (h) hE hv hE (by omega) hd (hT.ext hE) hok).mono ?_)
    rintro e w55 ⟨a49, n50, c51, rfl, hP52, hnc53, hpl54, hb⟩
    replace hE := hE.trans hb; replace bO1_0 := BoxAt.ext hb bO1_0; replace bO1_1 := BoxAt.ext hb bO1_1; replace bO1_2 := BoxAt.ext hb bO1_2; replace bO1_3 := BoxAt.ext hb bO1_3; replace bO5_0 := BoxAt.ext hb bO5_0; replace bO9_0 := BoxAt.ext hb bO9_0; replace bO9_1 := BoxAt.ext hb bO9_1; replace bO9_2 := BoxAt.ext hb bO9_2; replace bO9_3 := BoxAt.ext hb bO9_3; replace hr35v := hr35v.ext hb; have hs56 := hb.size; clear hb
    have hP52r := PcsS.mono (T := fun k => X10.heap.size ≤ k) hP52 (fun k hk => T (T hs14 hs37) hk)
    refine ⟨_, rfl, bO5_0.1, ?_⟩
    refine wS 1 hR (sn_eff (v := .int .i64 id) (w' := w55) (ex_load rfl (by kernel_rfl) (ld3 (bO1_0.1))) ⟨bO5_0.1, ?_⟩)
    refine wT 10 (.agg #[.int .i64 id, .int .i64 ver, .slice (some ⟨B32, 0, none⟩) 24 k33, .slice a49 n50 c51]) hR (fun w _ => by kernel_rfl) (bO5_0.1) ?_
    refine wS 11 hR (sn_setK4 (O := O1) (j := 0) (v0 := .int .i64 id) (v1 := .int .i64 ver) (v2 := .slice (some ⟨B32, 0, none⟩) 24 k33) (v3 := .slice a49 n50 c51) (ex_store (p := .pointer (some ⟨O1, 0, none⟩)) (v := .agg #[.int .i64 id, .int .i64 ver, .slice (some ⟨B32, 0, none⟩) 24 k33, .slice a49 n50 c51]) rfl (by kernel_rfl) (by kernel_rfl) (st31 bO1_0.1 bO1_0.2 bO1_1.1 bO1_1.2 bO1_2.1 bO1_2.2 bO1_3.1 bO1_3.2)) bO1_0 bO1_1 bO1_2 bO1_3 ?_)
    intro X57 ho hv0 hv1 hv2 hv3 hk; replace hE := ho.ext hE (Nat.le_of_eq hzO1); replace bO5_0 := ho.box (Nat.ne_of_lt (Nat.lt_of_lt_of_le lt4 (Nat.le_of_eq hzO5))) bO5_0
    have q9 := fun (j : Nat) (v : Value) (h : BoxAt _ O9 j v) => ho.box (Nat.ne_of_lt (Nat.lt_of_lt_of_le lt4 (T hs7 (Nat.le_of_eq hzO9)))) h
    replace bO9_0 := q9 _ _ bO9_0; replace bO9_1 := q9 _ _ bO9_1; replace bO9_2 := q9 _ _ bO9_2; replace bO9_3 := q9 _ _ bO9_3; clear q9; replace hr35v := ho.va (Nat.ne_of_lt (Nat.lt_of_lt_of_le lt4 (T (T hs7 (T hs11 hs14)) hn34))) hr35v; replace hP52r := hP52r.turn ho (Nat.not_le_of_lt (Nat.lt_of_lt_of_le lt4 (T hs7 hs11))); have hs58 : w55.heap.size ≤ X57.heap.size := Nat.le_of_eq ho.size.symm; clear ho hk bO1_0 bO1_1 bO1_2 bO1_3; have bO1_0 := hv0; clear hv0; have bO1_1 := hv1; clear hv1; have bO1_2 := hv2; clear hv2; have bO1_3 := hv3; clear hv3
    refine ⟨bO5_0.1, ?_⟩
    refine wd_end hL hR hK (by kernel_rfl) ?_
    exact qw_leaf hJ [4, 8] (ws' := [(4, .pointer (some ⟨O1, 0, none⟩)), (8, .pointer (some ⟨O9, 0, none⟩))]) (by kernel_rfl) ⟨B32, k33, a49, n50, c51, rfl, hE, bO5_0, bO9_0, bO9_1, bO9_2, bO9_3, hr35v, hnc53, hpl54, hP52r, bO1_0, bO1_1, bO1_2, bO1_3, (T hs14 (T hs37 (T hs56 hs58))), (T hs14 hn34)⟩
 ·
  clear bO1_0 bO1_1 bO1_2 bO1_3 bO5_0 bO9_0 bO9_1 bO9_2 bO9_3 hE
  rintro L ws Y59 ⟨B15, k16, a22, n23, c24, rfl, hE, bO5_0, bO9_0, bO9_1, bO9_2, bO9_3, hr18v, hnc26, hpl27, hP25r, bO1_0, bO1_1, bO1_2, bO1_3, hn60, hn61⟩
  have lt62 := hr18v.lt; refine qw_then ?_; refine cw_seq ?_; refine cw_seq ?_; refine cw_plain ?_
  refine pU (.agg #[.int .i64 id, .int .i64 ver, .slice (some ⟨B15, 0, none⟩) 24 k16, .slice a22 n23 c24]) (ex_load rfl (by kernel_rfl) (ld31 (bO1_0.1) (bO1_1.1) (bO1_2.1) (bO1_3.1))) ?_
  refine pS (sn_call (f := 28) (args := #[.agg #[.int .i64 id, .int .i64 ver, .slice (some ⟨B15, 0, none⟩) 24 k16, .slice a22 n23 c24]]) (by kernel_rfl) ((pValid_r (id := id) (ver := ver) (r := false) _ _ (by omega) (aa_q (hr18v.aa)) (Ext.refl _) (hP25r.pcs) (Ext.refl _) (hT.ext hE) hvp).mono ?_))
  rintro e w63 ⟨rfl, hb⟩
  replace hE := hE.trans hb; replace bO5_0 := BoxAt.ext hb bO5_0; replace bO9_0 := BoxAt.ext hb bO9_0; replace bO9_1 := BoxAt.ext hb bO9_1; replace bO9_2 := BoxAt.ext hb bO9_2; replace bO9_3 := BoxAt.ext hb bO9_3; replace hr18v := hr18v.ext hb; replace hP25r := hP25r.ext hb; replace bO1_0 := BoxAt.ext hb bO1_0; replace bO1_1 := BoxAt.ext hb bO1_1; replace bO1_2 := BoxAt.ext hb bO1_2; replace bO1_3 := BoxAt.ext hb bO1_3; have hs64 := hb.size; clear hb
  refine ⟨_, rfl, ?_⟩
  refine pT (.bool true) ?_; refine pl_nil ?_; refine qw_then ?_
  refine cw_t (by kernel_rfl) ?_
  refine cw_seq ?_; refine cw_plain ?_; refine pT (.agg #[.int .i64 0, .int .i64 0, .slice none 0 0, .slice none 0 0]) ?_
  refine pP (sn_setK4 (O := O9) (j := 0) (v0 := .int .i64 0) (v1 := .int .i64 0) (v2 := .slice none 0 0) (v3 := .slice none 0 0) (ex_store (p := .pointer (some ⟨O9, 0, none⟩)) (v := .agg #[.int .i64 0, .int .i64 0, .slice none 0 0, .slice none 0 0]) rfl (by kernel_rfl) (by kernel_rfl) (st31 bO9_0.1 bO9_0.2 bO9_1.1 bO9_1.2 bO9_2.1 bO9_2.2 bO9_3.1 bO9_3.2)) bO9_0 bO9_1 bO9_2 bO9_3 ?_)
  intro X65 ho hv0 hv1 hv2 hv3 hk; replace hE := ho.ext hE (T (T hs3 hs7) (Nat.le_of_eq hzO9)); replace bO5_0 := ho.box (Nat.ne_of_gt (Nat.lt_of_lt_of_le lt8 (Nat.le_of_eq hzO9))) bO5_0; replace hr18v := ho.va (Nat.ne_of_lt (Nat.lt_of_lt_of_le lt12 hn61)) hr18v; replace hP25r := hP25r.turn ho (Nat.not_le_of_lt (Nat.lt_of_lt_of_le lt12 (Nat.le_refl _)))
  have q9 := fun (j : Nat) (v : Value) (h : BoxAt _ O1 j v) => ho.box (Nat.ne_of_gt (Nat.lt_of_lt_of_le lt4 (T hs7 (Nat.le_of_eq hzO9)))) h
  replace bO1_0 := q9 _ _ bO1_0; replace bO1_1 := q9 _ _ bO1_1; replace bO1_2 := q9 _ _ bO1_2; replace bO1_3 := q9 _ _ bO1_3; clear q9; have hs66 : w63.heap.size ≤ X65.heap.size := Nat.le_of_eq ho.size.symm; clear ho hk bO9_0 bO9_1 bO9_2 bO9_3; have bO9_0 := hv0; clear hv0; have bO9_1 := hv1; clear hv1; have bO9_2 := hv2; clear hv2; have bO9_3 := hv3; clear hv3; refine pT (.int .i64 310) ?_; refine pl_nil ?_; refine qw_then ?_
  refine cw_ret ?_
  refine qw_then_ret ?_
  refine qw_ret [.agg #[.int .i64 0, .int .i64 0, .slice none 0 0, .slice none 0 0], .int .i64 310] rfl ⟨⟨_, by kernel_rfl, res_ld (ld31 (bO9_0.1) (bO9_1.1) (bO9_2.1) (bO9_3.1))⟩, (by kernel_rfl), trivial⟩ ?_
  exact ⟨rfl, hE⟩

end Go.Proofs.YtajdohcgjgknmaaDoor

/- Contract of package product: Build. -/
namespace Go.Proofs.YtajdohcgjgknmaaDoor
open Go.RowKit

/-- An area, all of it in blocks of S. -/
def AFr (S : Nat → Prop) (w : World) (a : Option Addr) (l : List Int) (n : Nat) : Prop := AA w a l n (Globe.validL l) ∧ ∀ ad, a = some ad → S ad.block
theorem AFr.ext {S : Nat → Prop} {w w' : World} {a : Option Addr} {l : List Int} {n : Nat} (h : AFr S w a l n) (hE : Ext w w') : AFr S w' a l n := ⟨h.1.ext hE, h.2⟩
theorem AFr.turn {S : Nat → Prop} {w X : World} {a : Option Addr} {l : List Int} {n : Nat} {O : Nat} (h : AFr S w a l n) (ho : Turns O w X) (hO : ¬ S O) : AFr S X a l n := ⟨aa_turn h.1 ho fun _ ad e q => hO (q ▸ h.2 ad e), h.2⟩
def RetB (w : World) (ok : Bool) (id ver : Int) (ar : List Int) (l : List Prod.Pc) (e : Ending) (w' : World) : Prop := (ok = true ∧ RetPrd w id ver ar l e w') ∨ (ok = false ∧ RetPrdErr w e w')
theorem RetB.yes {w : World} {ok : Bool} {id ver : Int} {ar : List Int} {l : List Prod.Pc} {e : Ending} {w' : World} (h : ok = true) (k : RetPrd w id ver ar l e w') : RetB w ok id ver ar l e w' := .inl ⟨h, k⟩
theorem RetB.no {w : World} {ok : Bool} {id ver : Int} {ar : List Int} {l : List Prod.Pc} {e : Ending} {w' : World} (h : ok = false) (k : RetPrdErr w e w') : RetB w ok id ver ar l e w' := .inr ⟨h, k⟩
theorem RetB.y {w : World} {ok : Bool} {id ver : Int} {ar : List Int} {l : List Prod.Pc} {e : Ending} {w' : World} (h : RetB w ok id ver ar l e w') (k : ok = true) : RetPrd w id ver ar l e w' := h.elim (fun q => q.2) fun q => by rw [k] at q; cases q.1
theorem RetB.n {w : World} {ok : Bool} {id ver : Int} {ar : List Int} {l : List Prod.Pc} {e : Ending} {w' : World} (h : RetB w ok id ver ar l e w') (k : ok = false) : RetPrdErr w e w' := h.elim (fun q => by rw [k] at q; cases q.1) fun q => q.2
namespace Prod
def goodGo (pre : List Pc) : List Pc → Bool
 | [] => true
 | x :: l => (okP x && !hasIm pre x.im) && goodGo (pre ++ [x]) l
def goodL (l : List Pc) : Bool := goodGo [] l
def buildOk (id : Int) (ar : List Int) (l : List Pc) : Bool := (decide (l.length ≤ 24) && Globe.validL ar) && (goodL l && validP id 1 ar (divide ar l))
theorem goodGo_step {pre l : List Pc} {i : Nat} {p : Pc} (hp : l[i]? = some p) : goodGo pre (l.drop i) = ((okP p && !hasIm pre p.im) && goodGo (pre ++ [p]) (l.drop (i + 1))) := by
 obtain ⟨hi, rfl⟩ := List.getElem?_eq_some_iff.1 hp
 rw [List.drop_eq_getElem_cons hi, goodGo]
theorem good_cases (p : Pc) (b : Bool) : okP p = false ∨ (okP p = true ∧ b = true) ∨ (okP p = true ∧ b = false) := by cases okP p <;> cases b <;> simp
theorem hasIm_f {l : List Pc} {im : Int} (h : hasIm l im = false) : ∀ q ∈ l, q.im ≠ im := fun q hq e => by
 have : hasIm l im = true := by unfold hasIm; rw [List.any_eq_true]; exact ⟨q, hq, by simp [e]⟩
 rw [h] at this; cases this
theorem goodGo_t : ∀ {l pre : List Pc}, goodGo pre l = true → (∀ p ∈ l, okP p = true) ∧ Dist l ∧ ∀ p ∈ l, ∀ q ∈ pre, q.im ≠ p.im
  | [], _, _ => ⟨(fun p hp => by cases hp), List.Pairwise.nil, fun p hp => by cases hp⟩
  | x :: l, pre, h => by
    rw [goodGo] at h
    simp only [Bool.and_eq_true, Bool.not_eq_true'] at h
    obtain ⟨i1, i2, i3⟩ := goodGo_t h.2
    refine ⟨fun p hp => ?_, Dist.cons.2 ⟨fun y hy => i3 y hy x (by simp), i2⟩, fun p hp q hq => ?_⟩
    · rcases List.mem_cons.1 hp with rfl | hp
      · exact h.1.1
      · exact i1 p hp
    · rcases List.mem_cons.1 hp with rfl | hp
      · exact hasIm_f h.1.2 q hq
      · exact i3 p hp q (by simp [hq])
theorem goodL_ok {l : List Pc} (h : goodL l = true) : ∀ p ∈ l, okP p = true := (goodGo_t h).1
theorem goodL_dist {l : List Pc} (h : goodL l = true) : Dist l := (goodGo_t h).2.1
theorem goodL_valid {l : List Pc} (h : goodL l = true) : ∀ p ∈ l, Globe.validL p.rw = true := fun p hp => (okP_t.1 (goodL_ok h p hp)).2.2
end Prod
set_option maxRecDepth 1000000 in
set_option maxHeartbeats 4000000 in
theorem Build_c {w1 w2 : World} {id : Int} {ar : List Int} {a1 a : Option Addr} {n1 n : Nat} {l : List Prod.Pc} (c1 : Nat) {c : Nat} (w : World) (hnc : n ≤ c) (hA : AA w1 a1 ar n1 (Globe.validL ar)) (e1 : Ext w1 w) (hP : PcsAt w2 a n l) (e2 : Ext w2 w) (hT : Tab w) :
  Calls Tryd.prog 11 #[.int .i64 id, .agg #[.slice a1 n1 c1], .slice a n c] w (RetB w (Prod.buildOk id ar l) id 1 ar (Prod.divide ar l)) := by
 replace hA := hA.ext e1; replace hP := hP.ext e2; have hnb := hP.max; have hln := hP.len; clear e1 e2
 refine calls_cw 47 [(2, .slice a n c), (1, .agg #[.slice a1 n1 c1]), (0, .int .i64 id)] Tryd.func11 rfl Tryd.ntmps11 (by kernel_rfl) (by kernel_rfl) (fun L => ?_)
 have hE : Ext w w := Ext.refl w
 refine cw_seq ?_; refine cw_plain ?_
 refine pS (sn_new (us := #[.slice a1 n1 c1]) (t := 26) (by kernel_rfl) ?_)
 intro O1 X2 hzO1 hyO1 hb hbx; have bO1_0 := bx1 hbx; clear hbx
 replace hE := hE.trans hb; have hs3 := hb.size; clear hb; have lt4 := bO1_0.lt
 refine pS (sn_new (us := #[.int .i64 0, .int .i64 0, .slice none 0 0, .slice none 0 0]) (t := 31) (by kernel_rfl) ?_)
 intro O5 X6 hzO5 hyO5 hb hbx; have ⟨bO5_0, bO5_1, bO5_2, bO5_3⟩ := bx4 hbx; clear hbx
 replace hE := hE.trans hb; replace bO1_0 := BoxAt.ext hb bO1_0; have hs7 := hb.size; clear hb; have lt8 := bO5_0.lt; refine pT (.int .i64 0) ?_; refine pl_nil ?_; refine qw_then ?_; refine cw_seq ?_; refine cw_seq ?_; refine cw_plain ?_; refine pT (.slice a n c) ?_; refine pT (.int .i64 (((n : Nat) : Int) : Int)) ?_
 by_cases hc9 : (((n : Nat) : Int) : Int) > (24 : Int)
 ·
  refine pU (.bool true) (ev_dec (show _ = Result.ok (Next.value (Value.bool (decide ((((n : Nat) : Int) : Int) > (24 : Int))))) _ from by kernel_rfl) (hc9)) ?_
  refine pT (.bool true) ?_; refine pK ?_; refine pK ?_; refine pK ?_; refine pT (.bool true) ?_; refine pl_nil ?_; refine qw_then ?_
  refine cw_t (by kernel_rfl) ?_
  refine cw_seq ?_; refine cw_plain ?_; refine pT (.agg #[.int .i64 0, .int .i64 0, .slice none 0 0, .slice none 0 0]) ?_
  refine pP (sn_setK4 (O := O5) (j := 0) (v0 := .int .i64 0) (v1 := .int .i64 0) (v2 := .slice none 0 0) (v3 := .slice none 0 0) (ex_store (p := .pointer (some ⟨O5, 0, none⟩)) (v := .agg #[.int .i64 0, .int .i64 0, .slice none 0 0, .slice none 0 0]) rfl (by kernel_rfl) (by kernel_rfl) (st31 bO5_0.1 bO5_0.2 bO5_1.1 bO5_1.2 bO5_2.1 bO5_2.2 bO5_3.1 bO5_3.2)) bO5_0 bO5_1 bO5_2 bO5_3 ?_)
  intro X10 ho hv0 hv1 hv2 hv3 hk; replace hE := ho.ext hE (T hs3 (Nat.le_of_eq hzO5)); replace bO1_0 := ho.box (Nat.ne_of_gt (Nat.lt_of_lt_of_le lt4 (Nat.le_of_eq hzO5))) bO1_0; have hs11 : X6.heap.size ≤ X10.heap.size := Nat.le_of_eq ho.size.symm; clear ho hk bO5_0 bO5_1 bO5_2 bO5_3; have bO5_0 := hv0; clear hv0; have bO5_1 := hv1; clear hv1; have bO5_2 := hv2; clear hv2; have bO5_3 := hv3; clear hv3; refine pT (.int .i64 310) ?_; refine pl_nil ?_; refine qw_then ?_; refine cC2 6 7 (fun L => ?_)
  refine cw_ret ?_
  refine qw_then_ret ?_
  refine qw_ret [.agg #[.int .i64 0, .int .i64 0, .slice none 0 0, .slice none 0 0], .int .i64 310] rfl ⟨⟨_, by kernel_rfl, res_ld (ld31 (bO5_0.1) (bO5_1.1) (bO5_2.1) (bO5_3.1))⟩, (by kernel_rfl), trivial⟩ ?_
  exact RetB.no (by unfold Prod.buildOk; rw [decide_eq_false (show ¬ l.length ≤ 24 by omega)]; rfl) ⟨rfl, hE⟩
 ·
  refine pU (.bool false) (ev_ndec (show _ = Result.ok (Next.value (Value.bool (decide ((((n : Nat) : Int) : Int) > (24 : Int))))) _ from by kernel_rfl) (hc9)) ?_
  refine pT (.bool false) ?_
  refine pU (.agg #[.slice a1 n1 c1]) (ex_load rfl (by kernel_rfl) (ld26 (bO1_0.1))) ?_
  rcases Bool.eq_false_or_eq_true (Globe.validL ar) with hb12 | hb12
  ·
   refine pS (sn_call (f := 31) (args := #[.agg #[.slice a1 n1 c1]]) (by kernel_rfl) ((Valid_q (r := true) _ _ (hA) hE hb12).mono ?_))
   rintro e w13 ⟨rfl, hb⟩
   replace hE := hE.trans hb; replace bO1_0 := BoxAt.ext hb bO1_0; replace bO5_0 := BoxAt.ext hb bO5_0; replace bO5_1 := BoxAt.ext hb bO5_1; replace bO5_2 := BoxAt.ext hb bO5_2; replace bO5_3 := BoxAt.ext hb bO5_3; have hs14 := hb.size; clear hb
   refine ⟨_, rfl, ?_⟩
   refine pT (.bool false) ?_; refine pT (.bool false) ?_; refine pl_nil ?_; refine qw_then ?_
   refine cw_f (by kernel_rfl) ?_
   refine cw_skip ?_
   refine qw_then ?_; refine cw_seq ?_; refine cw_seq ?_
   have hva : Globe.validL ar = true := hb12
   obtain ⟨b15, o16, rfl, rfl, hV17⟩ := va_of hA hva
   have lt18 := hV17.lt; refine cw_plain ?_; refine pT (.slice a n c) ?_; refine pT (.int .i64 (((n : Nat) : Int) : Int)) ?_; refine pT (.int .i64 0) ?_; refine pl_nil ?_; refine qw_then ?_; refine cC7 0 2 4 6 19 20 21 (fun L => ?_)
   refine cw_block ?_
   refine cw_loop [0, 2, 4, 6, 19, 20, 21] (fun ws' wr m => ∃ i : Nat, ws' = [(0, .int .i64 id), (2, .slice a n c), (4, .pointer (some ⟨O1, 0, none⟩)), (6, .pointer (some ⟨O5, 0, none⟩)), (19, .slice a n c), (20, .int .i64 (((n : Nat) : Int) : Int)), (21, .int .i64 (((i : Nat) : Int) : Int))] ∧ m = n - i ∧ w13.heap.size ≤ wr.heap.size ∧ Ext w wr ∧ BoxAt wr O1 0 (.slice (some ⟨b15, o16, none⟩) 24 c1) ∧ BoxAt wr O5 0 (.int .i64 0) ∧ BoxAt wr O5 1 (.int .i64 0) ∧ BoxAt wr O5 2 (.slice none 0 0) ∧ BoxAt wr O5 3 (.slice none 0 0) ∧ i ≤ n ∧ Prod.goodGo [] l = Prod.goodGo (l.take i) (l.drop i)) (ws0 := [(0, .int .i64 id), (2, .slice a n c), (4, .pointer (some ⟨O1, 0, none⟩)), (6, .pointer (some ⟨O5, 0, none⟩)), (19, .slice a n c), (20, .int .i64 (((n : Nat) : Int) : Int)), (21, .int .i64 0)]) (by kernel_rfl) _ ⟨0, rfl, rfl, Nat.le_refl _, hE, bO1_0, bO5_0, bO5_1, bO5_2, bO5_3, by omega, rfl⟩ ?_
   clear bO1_0 bO5_0 bO5_1 bO5_2 bO5_3 hE
   rintro m21 L ws w20 ⟨i, rfl, rfl, hs19, hE, bO1_0, bO5_0, bO5_1, bO5_2, bO5_3, hi, Hv⟩
   by_cases hlt : i < n
   ·
    obtain ⟨b22, o23, p, ar24, k25, c26, rfl, hx27, hp28, hp29, hp30, hp31, hA32⟩ := hP.at hlt
    have hst := Prod.goodGo_step (pre := l.take i) hx27
    have htk : l.take (i + 1) = l.take i ++ [p] := by rw [List.take_add_one, hx27]; rfl
    refine cw_seq ?_; refine cw_plain ?_
    refine pU (.bool true) (ev_dec (show _ = Result.ok (Next.value (Value.bool (decide ((((i : Nat) : Int) : Int) < (((n : Nat) : Int) : Int))))) _ from by kernel_rfl) (by omega)) ?_
    refine pl_nil ?_; refine qw_then ?_; refine cw_seq ?_
    refine cw_t (by kernel_rfl) ?_
    refine cw_skip ?_
    refine qw_then ?_; refine cw_seq ?_
    refine cw_block ?_
    refine cw_seq ?_; refine cw_plain ?_; refine pT (.int .i64 (((i : Nat) : Int) : Int)) ?_
    refine pU (.pointer (some ⟨b22, o23 + i * 4, none⟩)) (ex_index (p := .slice (some ⟨b22, o23, none⟩) n c) (i := .int .i64 ((i : Nat) : Int)) rfl (by kernel_rfl) (by kernel_rfl) (ix28 (k := i) (by omega))) ?_
    refine pU (.agg #[.int .i64 p.im, .int .i64 p.t, .bool p.cl, .slice ar24 k25 c26]) (ex_load rfl (by kernel_rfl) (ld41 ((hE.cell hp28)) ((hE.cell hp29)) ((hE.cell hp30)) ((hE.cell hp31)))) ?_
    refine pS (sn_new (us := #[.int .i64 0, .int .i64 0, .bool false, .slice none 0 0]) (t := 41) (by kernel_rfl) ?_)
    intro O33 X34 hzO33 hyO33 hb hbx; have ⟨bO33_0, bO33_1, bO33_2, bO33_3⟩ := bx4 hbx; clear hbx
    replace hE := hE.trans hb; replace bO1_0 := BoxAt.ext hb bO1_0; replace bO5_0 := BoxAt.ext hb bO5_0; replace bO5_1 := BoxAt.ext hb bO5_1; replace bO5_2 := BoxAt.ext hb bO5_2; replace bO5_3 := BoxAt.ext hb bO5_3; have hs35 := hb.size; clear hb; have lt36 := bO33_0.lt; refine pT (.int .i64 (((i : Nat) : Int) : Int)) ?_
    refine pP (sn_setK4 (O := O33) (j := 0) (v0 := .int .i64 p.im) (v1 := .int .i64 p.t) (v2 := .bool p.cl) (v3 := .slice ar24 k25 c26) (ex_store (p := .pointer (some ⟨O33, 0, none⟩)) (v := .agg #[.int .i64 p.im, .int .i64 p.t, .bool p.cl, .slice ar24 k25 c26]) rfl (by kernel_rfl) (by kernel_rfl) (st41 bO33_0.1 bO33_0.2 bO33_1.1 bO33_1.2 bO33_2.1 bO33_2.2 bO33_3.1 bO33_3.2)) bO33_0 bO33_1 bO33_2 bO33_3 ?_)
    intro X37 ho hv0 hv1 hv2 hv3 hk; replace hE := ho.ext hE (T (T hs3 (T hs7 (T hs14 hs19))) (Nat.le_of_eq hzO33)); replace bO1_0 := ho.box (Nat.ne_of_gt (Nat.lt_of_lt_of_le lt4 (T (T hs7 (T hs14 hs19)) (Nat.le_of_eq hzO33)))) bO1_0
    have q9 := fun (j : Nat) (v : Value) (h : BoxAt _ O5 j v) => ho.box (Nat.ne_of_gt (Nat.lt_of_lt_of_le lt8 (T (T hs14 hs19) (Nat.le_of_eq hzO33)))) h
    replace bO5_0 := q9 _ _ bO5_0; replace bO5_1 := q9 _ _ bO5_1; replace bO5_2 := q9 _ _ bO5_2; replace bO5_3 := q9 _ _ bO5_3; clear q9; have hs38 : X34.heap.size ≤ X37.heap.size := Nat.le_of_eq ho.size.symm; clear ho hk bO33_0 bO33_1 bO33_2 bO33_3; have bO33_0 := hv0; clear hv0; have bO33_1 := hv1; clear hv1; have bO33_2 := hv2; clear hv2; have bO33_3 := hv3; clear hv3; refine pl_nil ?_; refine qw_then ?_; refine cw_seq ?_
    rcases Prod.good_cases p (Prod.hasIm (l.take i) p.im) with h1 | ⟨h1, h2⟩ | ⟨h1, h2⟩
    ·
     have hfl : Prod.goodL l = false := by unfold Prod.goodL; rw [Hv, hst, h1]; rfl
     refine cw_draw [(some 26, [9], []), (some 27, [26], [0]), (some 28, [27], [1]), (some 29, [28], [2, 1]), (some 30, [2, 29], [3]), (some 31, [8, 29], [3]), (some 32, [30, 31, 29], [4, 5, 3]), (some 33, [9, 29], [3]), (some 34, [33, 29], [7, 3]), (some 35, [34, 29], [8, 3, 3]), (some 36, [32, 35, 29], [6, 9, 9, 3]), (some 37, [29, 36], [3, 10])] (fun w' => w'.cell? ⟨O33, 0, none⟩ = some (.int .i64 p.im) ∧ w'.cell? ⟨O33, 1, none⟩ = some (.int .i64 p.t) ∧ w'.cell? ⟨O33, 2, none⟩ = some (.bool p.cl) ∧ w'.cell? ⟨O33, 3, none⟩ = some (.slice ar24 k25 c26)) (by kernel_rfl) (by kernel_rfl) (by kernel_rfl) (by kernel_rfl) ((calm_then (calm_block (calm_then (calm_then (calm_block (calm_then calm_body))))))) (⟨bO33_0.1, bO33_1.1, bO33_2.1, bO33_3.1⟩) (fun ops Q X39 hb hL hR hK => ?_)
     replace hE := hE.trans hb; replace bO1_0 := BoxAt.ext hb bO1_0; replace bO5_0 := BoxAt.ext hb bO5_0; replace bO5_1 := BoxAt.ext hb bO5_1; replace bO5_2 := BoxAt.ext hb bO5_2; replace bO5_3 := BoxAt.ext hb bO5_3; replace bO33_0 := BoxAt.ext hb bO33_0; replace bO33_1 := BoxAt.ext hb bO33_1; replace bO33_2 := BoxAt.ext hb bO33_2; replace bO33_3 := BoxAt.ext hb bO33_3; have hs40 := hb.size; clear hb
     refine wT 0 (.agg #[.int .i64 p.im, .int .i64 p.t, .bool p.cl, .slice ar24 k25 c26]) hR (fun w hS => ex_load rfl (by kernel_rfl) (ld41 (hS.1) (hS.2.1) (hS.2.2.1) (hS.2.2.2))) (⟨bO33_0.1, bO33_1.1, bO33_2.1, bO33_3.1⟩) ?_
     refine wS 1 hR (sn_call (f := 32) (args := #[.agg #[.int .i64 p.im, .int .i64 p.t, .bool p.cl, .slice ar24 k25 c26]]) (by kernel_rfl) ((right_r (x := p) (r := false) _ (hA32) hE h1).mono ?_))
     rintro e w41 ⟨rfl, hb⟩
     replace hE := hE.trans hb; replace bO1_0 := BoxAt.ext hb bO1_0; replace bO5_0 := BoxAt.ext hb bO5_0; replace bO5_1 := BoxAt.ext hb bO5_1; replace bO5_2 := BoxAt.ext hb bO5_2; replace bO5_3 := BoxAt.ext hb bO5_3; replace bO33_0 := BoxAt.ext hb bO33_0; replace bO33_1 := BoxAt.ext hb bO33_1; replace bO33_2 := BoxAt.ext hb bO33_2; replace bO33_3 := BoxAt.ext hb bO33_3; have hs42 := hb.size; clear hb
     refine ⟨_, rfl, ⟨bO33_0.1, bO33_1.1, bO33_2.1, bO33_3.1⟩, ?_⟩
     refine wT 2 (.bool true) hR (fun w _ => by kernel_rfl) (⟨bO33_0.1, bO33_1.1, bO33_2.1, bO33_3.1⟩) ?_
     refine wT 3 (.bool true) hR (fun w _ => by kernel_rfl) (⟨bO33_0.1, bO33_1.1, bO33_2.1, bO33_3.1⟩) ?_
     refine wd_skip 4 hR rfl (by kernel_rfl) rfl (by kernel_rfl) (⟨bO33_0.1, bO33_1.1, bO33_2.1, bO33_3.1⟩) ?_
     refine wd_skip 5 hR rfl (by kernel_rfl) rfl (by kernel_rfl) (⟨bO33_0.1, bO33_1.1, bO33_2.1, bO33_3.1⟩) ?_
     refine wd_skip 6 hR rfl (by kernel_rfl) rfl (by kernel_rfl) (⟨bO33_0.1, bO33_1.1, bO33_2.1, bO33_3.1⟩) ?_
     refine wd_skip 7 hR rfl (by kernel_rfl) rfl (by kernel_rfl) (⟨bO33_0.1, bO33_1.1, bO33_2.1, bO33_3.1⟩) ?_
     refine wd_skip 8 hR rfl (by kernel_rfl) rfl (by kernel_rfl) (⟨bO33_0.1, bO33_1.1, bO33_2.1, bO33_3.1⟩) ?_
     refine wd_skip 9 hR rfl (by kernel_rfl) rfl (by kernel_rfl) (⟨bO33_0.1, bO33_1.1, bO33_2.1, bO33_3.1⟩) ?_
     refine wd_skip 10 hR rfl (by kernel_rfl) rfl (by kernel_rfl) (⟨bO33_0.1, bO33_1.1, bO33_2.1, bO33_3.1⟩) ?_
     refine wT 11 (.bool true) hR (fun w _ => by kernel_rfl) (⟨bO33_0.1, bO33_1.1, bO33_2.1, bO33_3.1⟩) ?_
     refine wd_end hL hR hK (by kernel_rfl) ?_
     refine qw_then ?_; refine cC8 0 2 4 6 19 20 21 37 (fun L => ?_)
     refine cw_t (by kernel_rfl) ?_
     refine cw_seq ?_; refine cw_plain ?_; refine pT (.agg #[.int .i64 0, .int .i64 0, .slice none 0 0, .slice none 0 0]) ?_
     refine pP (sn_setK4 (O := O5) (j := 0) (v0 := .int .i64 0) (v1 := .int .i64 0) (v2 := .slice none 0 0) (v3 := .slice none 0 0) (ex_store (p := .pointer (some ⟨O5, 0, none⟩)) (v := .agg #[.int .i64 0, .int .i64 0, .slice none 0 0, .slice none 0 0]) rfl (by kernel_rfl) (by kernel_rfl) (st31 bO5_0.1 bO5_0.2 bO5_1.1 bO5_1.2 bO5_2.1 bO5_2.2 bO5_3.1 bO5_3.2)) bO5_0 bO5_1 bO5_2 bO5_3 ?_)
     intro X43 ho hv0 hv1 hv2 hv3 hk; replace hE := ho.ext hE (T hs3 (Nat.le_of_eq hzO5)); replace bO1_0 := ho.box (Nat.ne_of_gt (Nat.lt_of_lt_of_le lt4 (Nat.le_of_eq hzO5))) bO1_0
     have q9 := fun (j : Nat) (v : Value) (h : BoxAt _ O33 j v) => ho.box (Nat.ne_of_lt (Nat.lt_of_lt_of_le lt8 (T (T hs14 hs19) (Nat.le_of_eq hzO33)))) h
     replace bO33_0 := q9 _ _ bO33_0; replace bO33_1 := q9 _ _ bO33_1; replace bO33_2 := q9 _ _ bO33_2; replace bO33_3 := q9 _ _ bO33_3; clear q9; have hs44 : w41.heap.size ≤ X43.heap.size := Nat.le_of_eq ho.size.symm; clear ho hk bO5_0 bO5_1 bO5_2 bO5_3; have bO5_0 := hv0; clear hv0; have bO5_1 := hv1; clear hv1; have bO5_2 := hv2; clear hv2; have bO5_3 := hv3; clear hv3; refine pT (.int .i64 310) ?_; refine pl_nil ?_; refine qw_then ?_
     refine cw_ret ?_
     refine qw_block_ret ?_
     refine qw_then_ret ?_
     refine qw_then_ret ?_
     refine qw_block_ret ?_
     refine qw_then_ret ?_
     refine qw_ret [.agg #[.int .i64 0, .int .i64 0, .slice none 0 0, .slice none 0 0], .int .i64 310] rfl ⟨⟨_, by kernel_rfl, res_ld (ld31 (bO5_0.1) (bO5_1.1) (bO5_2.1) (bO5_3.1))⟩, (by kernel_rfl), trivial⟩ ?_
     exact RetB.no (by unfold Prod.buildOk; rw [hfl]; simp) ⟨rfl, hE⟩
    ·
     have hfl : Prod.goodL l = false := by unfold Prod.goodL; rw [Hv, hst, h1, h2]; rfl
     refine cw_draw [(some 26, [9], []), (some 27, [26], [0]), (some 28, [27], [1]), (some 29, [28], [2, 1]), (some 30, [2, 29], [3]), (some 31, [8, 29], [3]), (some 32, [30, 31, 29], [4, 5, 3]), (some 33, [9, 29], [3]), (some 34, [33, 29], [7, 3]), (some 35, [34, 29], [8, 3, 3]), (some 36, [32, 35, 29], [6, 9, 9, 3]), (some 37, [29, 36], [3, 10])] (fun w' => w'.cell? ⟨O33, 0, none⟩ = some (.int .i64 p.im) ∧ w'.cell? ⟨O33, 1, none⟩ = some (.int .i64 p.t) ∧ w'.cell? ⟨O33, 2, none⟩ = some (.bool p.cl) ∧ w'.cell? ⟨O33, 3, none⟩ = some (.slice ar24 k25 c26)) (by kernel_rfl) (by kernel_rfl) (by kernel_rfl) (by kernel_rfl) ((calm_then (calm_block (calm_then (calm_then (calm_block (calm_then calm_body))))))) (⟨bO33_0.1, bO33_1.1, bO33_2.1, bO33_3.1⟩) (fun ops Q X45 hb hL hR hK => ?_)
     replace hE := hE.trans hb; replace bO1_0 := BoxAt.ext hb bO1_0; replace bO5_0 := BoxAt.ext hb bO5_0; replace bO5_1 := BoxAt.ext hb bO5_1; replace bO5_2 := BoxAt.ext hb bO5_2; replace bO5_3 := BoxAt.ext hb bO5_3; replace bO33_0 := BoxAt.ext hb bO33_0; replace bO33_1 := BoxAt.ext hb bO33_1; replace bO33_2 := BoxAt.ext hb bO33_2; replace bO33_3 := BoxAt.ext hb bO33_3; have hs46 := hb.size; clear hb
     refine wT 0 (.agg #[.int .i64 p.im, .int .i64 p.t, .bool p.cl, .slice ar24 k25 c26]) hR (fun w hS => ex_load rfl (by kernel_rfl) (ld41 (hS.1) (hS.2.1) (hS.2.2.1) (hS.2.2.2))) (⟨bO33_0.1, bO33_1.1, bO33_2.1, bO33_3.1⟩) ?_
     refine wS 1 hR (sn_call (f := 32) (args := #[.agg #[.int .i64 p.im, .int .i64 p.t, .bool p.cl, .slice ar24 k25 c26]]) (by kernel_rfl) ((right_r (x := p) (r := true) _ (hA32) hE h1).mono ?_))
     rintro e w47 ⟨rfl, hb⟩
     replace hE := hE.trans hb; replace bO1_0 := BoxAt.ext hb bO1_0; replace bO5_0 := BoxAt.ext hb bO5_0; replace bO5_1 := BoxAt.ext hb bO5_1; replace bO5_2 := BoxAt.ext hb bO5_2; replace bO5_3 := BoxAt.ext hb bO5_3; replace bO33_0 := BoxAt.ext hb bO33_0; replace bO33_1 := BoxAt.ext hb bO33_1; replace bO33_2 := BoxAt.ext hb bO33_2; replace bO33_3 := BoxAt.ext hb bO33_3; have hs48 := hb.size; clear hb
     refine ⟨_, rfl, ⟨bO33_0.1, bO33_1.1, bO33_2.1, bO33_3.1⟩, ?_⟩
     refine wT 2 (.bool false) hR (fun w _ => by kernel_rfl) (⟨bO33_0.1, bO33_1.1, bO33_2.1, bO33_3.1⟩) ?_
     refine wT 3 (.bool false) hR (fun w _ => by kernel_rfl) (⟨bO33_0.1, bO33_1.1, bO33_2.1, bO33_3.1⟩) ?_
     refine wT 4 (.slice (some ⟨b22, o23, none⟩) n c) hR (fun w _ => by kernel_rfl) (⟨bO33_0.1, bO33_1.1, bO33_2.1, bO33_3.1⟩) ?_
     refine wT 5 (.int .i64 (((i : Nat) : Int) : Int)) hR (fun w _ => by kernel_rfl) (⟨bO33_0.1, bO33_1.1, bO33_2.1, bO33_3.1⟩) ?_
     refine wT 6 (.slice (some ⟨b22, o23, none⟩) i c) hR (fun w _ => ex_slice (p := .slice (some ⟨b22, o23, none⟩) n c) rfl (by kernel_rfl) (by kernel_rfl) (by kernel_rfl) (by kernel_rfl) (sl28_010 (m := i) (by omega) (by omega))) (⟨bO33_0.1, bO33_1.1, bO33_2.1, bO33_3.1⟩) ?_
     refine wT 7 (.pointer (some ⟨O33, 0, none⟩)) hR (fun w _ => by kernel_rfl) (⟨bO33_0.1, bO33_1.1, bO33_2.1, bO33_3.1⟩) ?_
     refine wT 8 (.int .i64 p.im) hR (fun w hS => ex_load rfl (by kernel_rfl) (ld3 (hS.1))) (⟨bO33_0.1, bO33_1.1, bO33_2.1, bO33_3.1⟩) ?_
     refine wS 9 hR (sn_call (f := 34) (args := #[.int .i64 p.im]) (by kernel_rfl) ((twin_c p.im _).mono ?_))
     rintro e w52 ⟨B49, rfl, hn50, hc51, hb⟩
     replace hE := hE.trans hb; replace bO1_0 := BoxAt.ext hb bO1_0; replace bO5_0 := BoxAt.ext hb bO5_0; replace bO5_1 := BoxAt.ext hb bO5_1; replace bO5_2 := BoxAt.ext hb bO5_2; replace bO5_3 := BoxAt.ext hb bO5_3; replace bO33_0 := BoxAt.ext hb bO33_0; replace bO33_1 := BoxAt.ext hb bO33_1; replace bO33_2 := BoxAt.ext hb bO33_2; replace bO33_3 := BoxAt.ext hb bO33_3; have hs53 := hb.size; clear hb
     have lt54 := World.block_lt_of_cell? _ _ hc51
     refine ⟨_, rfl, ⟨bO33_0.1, bO33_1.1, bO33_2.1, bO33_3.1⟩, ?_⟩
     refine wS 10 hR (sn_call (f := 33) (args := #[.slice (some ⟨b22, o23, none⟩) i c, .func (.func 58) #[] #[.pointer (some ⟨B49, 0, none⟩)]]) (by kernel_rfl) ((ContainsTwin_r (r := true) _ _ ((hP).take (by omega)) hE (hc51) (Ext.refl _) h2).mono ?_))
     rintro e w55 ⟨rfl, hb⟩
     replace hE := hE.trans hb; replace bO1_0 := BoxAt.ext hb bO1_0; replace bO5_0 := BoxAt.ext hb bO5_0; replace bO5_1 := BoxAt.ext hb bO5_1; replace bO5_2 := BoxAt.ext hb bO5_2; replace bO5_3 := BoxAt.ext hb bO5_3; replace bO33_0 := BoxAt.ext hb bO33_0; replace bO33_1 := BoxAt.ext hb bO33_1; replace bO33_2 := BoxAt.ext hb bO33_2; replace bO33_3 := BoxAt.ext hb bO33_3; replace hc51 := hb.cell hc51; have hs56 := hb.size; clear hb
     refine ⟨_, rfl, ⟨bO33_0.1, bO33_1.1, bO33_2.1, bO33_3.1⟩, ?_⟩
     refine wT 11 (.bool true) hR (fun w _ => by kernel_rfl) (⟨bO33_0.1, bO33_1.1, bO33_2.1, bO33_3.1⟩) ?_
     refine wd_end hL hR hK (by kernel_rfl) ?_
     refine qw_then ?_; refine cC8 0 2 4 6 19 20 21 37 (fun L => ?_)
     refine cw_t (by kernel_rfl) ?_
     refine cw_seq ?_; refine cw_plain ?_; refine pT (.agg #[.int .i64 0, .int .i64 0, .slice none 0 0, .slice none 0 0]) ?_
     refine pP (sn_setK4 (O := O5) (j := 0) (v0 := .int .i64 0) (v1 := .int .i64 0) (v2 := .slice none 0 0) (v3 := .slice none 0 0) (ex_store (p := .pointer (some ⟨O5, 0, none⟩)) (v := .agg #[.int .i64 0, .int .i64 0, .slice none 0 0, .slice none 0 0]) rfl (by kernel_rfl) (by kernel_rfl) (st31 bO5_0.1 bO5_0.2 bO5_1.1 bO5_1.2 bO5_2.1 bO5_2.2 bO5_3.1 bO5_3.2)) bO5_0 bO5_1 bO5_2 bO5_3 ?_)
     intro X57 ho hv0 hv1 hv2 hv3 hk; replace hE := ho.ext hE (T hs3 (Nat.le_of_eq hzO5)); replace bO1_0 := ho.box (Nat.ne_of_gt (Nat.lt_of_lt_of_le lt4 (Nat.le_of_eq hzO5))) bO1_0
     have q9 := fun (j : Nat) (v : Value) (h : BoxAt _ O33 j v) => ho.box (Nat.ne_of_lt (Nat.lt_of_lt_of_le lt8 (T (T hs14 hs19) (Nat.le_of_eq hzO33)))) h
     replace bO33_0 := q9 _ _ bO33_0; replace bO33_1 := q9 _ _ bO33_1; replace bO33_2 := q9 _ _ bO33_2; replace bO33_3 := q9 _ _ bO33_3; clear q9; replace hc51 := ho.cell (Nat.ne_of_lt (Nat.lt_of_lt_of_le lt8 (T (T hs14 (T hs19 (T hs35 (T hs38 (T hs46 hs48))))) hn50))) hc51; have hs58 : w55.heap.size ≤ X57.heap.size := Nat.le_of_eq ho.size.symm; clear ho hk bO5_0 bO5_1 bO5_2 bO5_3; have bO5_0 := hv0; clear hv0; have bO5_1 := hv1; clear hv1; have bO5_2 := hv2; clear hv2; have bO5_3 := hv3; clear hv3; refine pT (.int .i64 310) ?_; refine pl_nil ?_; refine qw_then ?_
     refine cw_ret ?_
     refine qw_block_ret ?_
     refine qw_then_ret ?_
     refine qw_then_ret ?_
     refine qw_block_ret ?_
     refine qw_then_ret ?_
     refine qw_ret [.agg #[.int .i64 0, .int .i64 0, .slice none 0 0, .slice none 0 0], .int .i64 310] rfl ⟨⟨_, by kernel_rfl, res_ld (ld31 (bO5_0.1) (bO5_1.1) (bO5_2.1) (bO5_3.1))⟩, (by kernel_rfl), trivial⟩ ?_
     exact RetB.no (by unfold Prod.buildOk; rw [hfl]; simp) ⟨rfl, hE⟩
    ·
     skip
     refine cw_draw [(some 26, [9], []), (some 27, [26], [0]), (some 28, [27], [1]), (some 29, [28], [2, 1]), (some 30, [2, 29], [3]), (some 31, [8, 29], [3]), (some 32, [30, 31, 29], [4, 5, 3]), (some 33, [9, 29], [3]), (some 34, [33, 29], [7, 3]), (some 35, [34, 29], [8, 3, 3]), (some 36, [32, 35, 29], [6, 9, 9, 3]), (some 37, [29, 36], [3, 10])] (fun w' => w'.cell? ⟨O33, 0, none⟩ = some (.int .i64 p.im) ∧ w'.cell? ⟨O33, 1, none⟩ = some (.int .i64 p.t) ∧ w'.cell? ⟨O33, 2, none⟩ = some (.bool p.cl) ∧ w'.cell? ⟨O33, 3, none⟩ = some (.slice ar24 k25 c26)) (by kernel_rfl) (by kernel_rfl) (by kernel_rfl) (by kernel_rfl) ((calm_then (calm_block (calm_then (calm_then (calm_block (calm_then calm_body))))))) (⟨bO33_0.1, bO33_1.1, bO33_2.1, bO33_3.1⟩) (fun ops Q X59 hb hL hR hK => ?_)
     replace hE := hE.trans hb; replace bO1_0 := BoxAt.ext hb bO1_0; replace bO5_0 := BoxAt.ext hb bO5_0; replace bO5_1 := BoxAt.ext hb bO5_1; replace bO5_2 := BoxAt.ext hb bO5_2; replace bO5_3 := BoxAt.ext hb bO5_3; replace bO33_0 := BoxAt.ext hb bO33_0; replace bO33_1 := BoxAt.ext hb bO33_1; replace bO33_2 := BoxAt.ext hb bO33_2; replace bO33_3 := BoxAt.ext hb bO33_3; have hs60 := hb.size; clear hb
     refine wT 0 (.agg #[.int .i64 p.im, .int .i64 p.t, .bool p.cl, .slice ar24 k25 c26]) hR (fun w hS => ex_load rfl (by kernel_rfl) (ld41 (hS.1) (hS.2.1) (hS.2.2.1) (hS.2.2.2))) (⟨bO33_0.1, bO33_1.1, bO33_2.1, bO33_3.1⟩) ?_
     refine wS 1 hR (sn_call (f := 32) (args := #[.agg #[.int .i64 p.im, .int .i64 p.t, .bool p.cl, .slice ar24 k25 c26]]) (by kernel_rfl) ((right_r (x := p) (r := true) _ (hA32) hE h1).mono ?_))
     rintro e w61 ⟨rfl, hb⟩
     replace hE := hE.trans hb; replace bO1_0 := BoxAt.ext hb bO1_0; replace bO5_0 := BoxAt.ext hb bO5_0; replace bO5_1 := BoxAt.ext hb bO5_1; replace bO5_2 := BoxAt.ext hb bO5_2; replace bO5_3 := BoxAt.ext hb bO5_3; replace bO33_0 := BoxAt.ext hb bO33_0; replace bO33_1 := BoxAt.ext hb bO33_1; replace bO33_2 := BoxAt.ext hb bO33_2; replace bO33_3 := BoxAt.ext hb bO33_3; have hs62 := hb.size; clear hb
     refine ⟨_, rfl, ⟨bO33_0.1, bO33_1.1, bO33_2.1, bO33_3.1⟩, ?_⟩
     refine wT 2 (.bool false) hR (fun w _ => by kernel_rfl) (⟨bO33_0.1, bO33_1.1, bO33_2.1, bO33_3.1⟩) ?_
     refine wT 3 (.bool false) hR (fun w _ => by kernel_rfl) (⟨bO33_0.1, bO33_1.1, bO33_2.1, bO33_3.1⟩) ?_
     refine wT 4 (.slice (some ⟨b22, o23, none⟩) n c) hR (fun w _ => by kernel_rfl) (⟨bO33_0.1, bO33_1.1, bO33_2.1, bO33_3.1⟩) ?_
     refine wT 5 (.int .i64 (((i : Nat) : Int) : Int)) hR (fun w _ => by kernel_rfl) (⟨bO33_0.1, bO33_1.1, bO33_2.1, bO33_3.1⟩) ?_
     refine wT 6 (.slice (some ⟨b22, o23, none⟩) i c) hR (fun w _ => ex_slice (p := .slice (some ⟨b22, o23, none⟩) n c) rfl (by kernel_rfl) (by kernel_rfl) (by kernel_rfl) (by kernel_rfl) (sl28_010 (m := i) (by omega) (by omega))) (⟨bO33_0.1, bO33_1.1, bO33_2.1, bO33_3.1⟩) ?_
     refine wT 7 (.pointer (some ⟨O33, 0, none⟩)) hR (fun w _ => by kernel_rfl) (⟨bO33_0.1, bO33_1.1, bO33_2.1, bO33_3.1⟩) ?_
     refine wT 8 (.int .i64 p.im) hR (fun w hS => ex_load rfl (by kernel_rfl) (ld3 (hS.1))) (⟨bO33_0.1, bO33_1.1, bO33_2.1, bO33_3.1⟩) ?_
     refine wS 9 hR (sn_call (f := 34) (args := #[.int .i64 p.im]) (by kernel_rfl) ((twin_c p.im _).mono ?_))
     rintro e w66 ⟨B63, rfl, hn64, hc65, hb⟩
     replace hE := hE.trans hb; replace bO1_0 := BoxAt.ext hb bO1_0; replace bO5_0 := BoxAt.ext hb bO5_0; replace bO5_1 := BoxAt.ext hb bO5_1; replace bO5_2 := BoxAt.ext hb bO5_2; replace bO5_3 := BoxAt.ext hb bO5_3; replace bO33_0 := BoxAt.ext hb bO33_0; replace bO33_1 := BoxAt.ext hb bO33_1; replace bO33_2 := BoxAt.ext hb bO33_2; replace bO33_3 := BoxAt.ext hb bO33_3; have hs67 := hb.size; clear hb
     have lt68 := World.block_lt_of_cell? _ _ hc65
     refine ⟨_, rfl, ⟨bO33_0.1, bO33_1.1, bO33_2.1, bO33_3.1⟩, ?_⟩
     refine wS 10 hR (sn_call (f := 33) (args := #[.slice (some ⟨b22, o23, none⟩) i c, .func (.func 58) #[] #[.pointer (some ⟨B63, 0, none⟩)]]) (by kernel_rfl) ((ContainsTwin_r (r := false) _ _ ((hP).take (by omega)) hE (hc65) (Ext.refl _) h2).mono ?_))
     rintro e w69 ⟨rfl, hb⟩
     replace hE := hE.trans hb; replace bO1_0 := BoxAt.ext hb bO1_0; replace bO5_0 := BoxAt.ext hb bO5_0; replace bO5_1 := BoxAt.ext hb bO5_1; replace bO5_2 := BoxAt.ext hb bO5_2; replace bO5_3 := BoxAt.ext hb bO5_3; replace bO33_0 := BoxAt.ext hb bO33_0; replace bO33_1 := BoxAt.ext hb bO33_1; replace bO33_2 := BoxAt.ext hb bO33_2; replace bO33_3 := BoxAt.ext hb bO33_3; replace hc65 := hb.cell hc65; have hs70 := hb.size; clear hb
     refine ⟨_, rfl, ⟨bO33_0.1, bO33_1.1, bO33_2.1, bO33_3.1⟩, ?_⟩
     refine wT 11 (.bool false) hR (fun w _ => by kernel_rfl) (⟨bO33_0.1, bO33_1.1, bO33_2.1, bO33_3.1⟩) ?_
     refine wd_end hL hR hK (by kernel_rfl) ?_
     refine qw_then ?_; refine cC8 0 2 4 6 19 20 21 37 (fun L => ?_)
     refine cw_f (by kernel_rfl) ?_
     refine cw_skip ?_
     refine qw_block ?_
     refine qw_then ?_; refine cw_plain ?_
     refine pU (.int .i64 (((i + 1 : Nat) : Int) : Int)) (ev_wrap (by kernel_rfl) (by omega) (by omega)) ?_
     refine pT (.int .i64 (((i + 1 : Nat) : Int) : Int)) ?_; refine pl_nil ?_
     refine qw_round [0, 2, 4, 6, 19, 20, 21] (ws' := [(0, .int .i64 id), (2, .slice (some ⟨b22, o23, none⟩) n c), (4, .pointer (some ⟨O1, 0, none⟩)), (6, .pointer (some ⟨O5, 0, none⟩)), (19, .slice (some ⟨b22, o23, none⟩) n c), (20, .int .i64 (((n : Nat) : Int) : Int)), (21, .int .i64 (((i + 1 : Nat) : Int) : Int))]) (by kernel_rfl) _ ?_ ⟨(i + 1), rfl, rfl, (T hs19 (T hs35 (T hs38 (T hs60 (T hs62 (T hs67 hs70)))))), hE, bO1_0, bO5_0, bO5_1, bO5_2, bO5_3, by omega, (by rw [Hv, hst, h1, h2, ← htk]; rfl)⟩
     omega
   ·
    have hin : i = n := by omega
    have hgd : Prod.goodL l = true := by unfold Prod.goodL; rw [Hv, hin, List.drop_of_length_le (Nat.le_of_eq hln)]; rfl
    have hd := Prod.goodL_dist hgd; have hok := Prod.goodL_valid hgd
    refine cw_seq ?_; refine cw_plain ?_
    refine pU (.bool false) (ev_ndec (show _ = Result.ok (Next.value (Value.bool (decide ((((i : Nat) : Int) : Int) < (((n : Nat) : Int) : Int))))) _ from by kernel_rfl) (by omega)) ?_
    refine pl_nil ?_; refine qw_then ?_; refine cw_seq ?_
    refine cw_f (by kernel_rfl) ?_
    refine cw_exit ?_
    refine qw_then_exit ?_
    refine qw_then_exit ?_
    refine qw_block_out ?_
    refine qw_then ?_; refine cw_seq ?_; refine cw_plain ?_; refine pT (.int .i64 id) ?_; refine pT (.agg #[.int .i64 id, .int .i64 0, .slice none 0 0, .slice none 0 0]) ?_
    refine pU (.agg #[.slice (some ⟨b15, o16, none⟩) 24 c1]) (ex_load rfl (by kernel_rfl) (ld26 (bO1_0.1))) ?_
    refine pT (.slice a n c) ?_
    rcases Bool.eq_false_or_eq_true (Prod.validP id 1 ar (Prod.divide ar l)) with hb71 | hb71
    ·
     refine pS (sn_call (f := 35) (args := #[.agg #[.int .i64 id, .int .i64 0, .slice none 0 0, .slice none 0 0], .int .i64 1, .agg #[.slice (some ⟨b15, o16, none⟩) 24 c1], .slice a n c]) (by kernel_rfl) ((made_t (l := l) _ _ _ hV17 hE (hP) hE (by omega) hd hok (hT.ext hE) hb71).mono ?_))
     rintro e w83 ⟨a72, n73, k74, a75, n76, c77, rfl, hA78, hfr79, hP80, hnc81, hpl82, hb⟩
     replace hE := hE.trans hb; replace bO1_0 := BoxAt.ext hb bO1_0; replace bO5_0 := BoxAt.ext hb bO5_0; replace bO5_1 := BoxAt.ext hb bO5_1; replace bO5_2 := BoxAt.ext hb bO5_2; replace bO5_3 := BoxAt.ext hb bO5_3; have hs84 := hb.size; clear hb
     have hA78r : AFr (fun k => w20.heap.size ≤ k) w83 a72 ar n73 := ⟨hA78, fun ad e => T (Nat.le_refl _) (hfr79 ad e)⟩
     have hP80r := PcsS.mono (T := fun k => w20.heap.size ≤ k) hP80 (fun k hk => T (Nat.le_refl _) hk)
     refine ⟨_, rfl, ?_⟩
     refine pT (.agg #[.int .i64 id, .int .i64 1, .slice a72 n73 k74, .slice a75 n76 c77]) ?_; refine pT (.int .i64 0) ?_
     refine pP (sn_setK4 (O := O5) (j := 0) (v0 := .int .i64 id) (v1 := .int .i64 1) (v2 := .slice a72 n73 k74) (v3 := .slice a75 n76 c77) (ex_store (p := .pointer (some ⟨O5, 0, none⟩)) (v := .agg #[.int .i64 id, .int .i64 1, .slice a72 n73 k74, .slice a75 n76 c77]) rfl (by kernel_rfl) (by kernel_rfl) (st31 bO5_0.1 bO5_0.2 bO5_1.1 bO5_1.2 bO5_2.1 bO5_2.2 bO5_3.1 bO5_3.2)) bO5_0 bO5_1 bO5_2 bO5_3 ?_)
     intro X85 ho hv0 hv1 hv2 hv3 hk; replace hE := ho.ext hE (T hs3 (Nat.le_of_eq hzO5)); replace bO1_0 := ho.box (Nat.ne_of_gt (Nat.lt_of_lt_of_le lt4 (Nat.le_of_eq hzO5))) bO1_0; replace hA78r := hA78r.turn ho (Nat.not_le_of_lt (Nat.lt_of_lt_of_le lt8 (T hs14 hs19))); replace hP80r := hP80r.turn ho (Nat.not_le_of_lt (Nat.lt_of_lt_of_le lt8 (T hs14 hs19))); have hs86 : w83.heap.size ≤ X85.heap.size := Nat.le_of_eq ho.size.symm; clear ho hk bO5_0 bO5_1 bO5_2 bO5_3; have bO5_0 := hv0; clear hv0; have bO5_1 := hv1; clear hv1; have bO5_2 := hv2; clear hv2; have bO5_3 := hv3; clear hv3; refine pT (.int .i64 0) ?_; refine pl_nil ?_; refine qw_then ?_; refine cC2 6 7 (fun L => ?_)
     refine cw_ret ?_
     refine qw_ret [.agg #[.int .i64 id, .int .i64 1, .slice a72 n73 k74, .slice a75 n76 c77], .int .i64 0] rfl ⟨⟨_, by kernel_rfl, res_ld (ld31 (bO5_0.1) (bO5_1.1) (bO5_2.1) (bO5_3.1))⟩, (by kernel_rfl), trivial⟩ ?_
     exact RetB.yes (by unfold Prod.buildOk; rw [hva, hgd, hb71, decide_eq_true (show l.length ≤ 24 by omega)]; rfl) ⟨_, _, _, _, _, _, rfl, (hA78r).1, fun ad e => T (T hs3 (T hs7 (T hs14 hs19))) ((hA78r).2 ad e), (hP80r).mono fun k hk => T (T hs3 (T hs7 (T hs14 hs19))) hk, by omega, hpl82, hE⟩
    ·
     refine pS (sn_call (f := 35) (args := #[.agg #[.int .i64 id, .int .i64 0, .slice none 0 0, .slice none 0 0], .int .i64 1, .agg #[.slice (some ⟨b15, o16, none⟩) 24 c1], .slice a n c]) (by kernel_rfl) ((made_f (l := l) _ _ _ hV17 hE (hP) hE (by omega) hd hok (hT.ext hE) hb71).mono ?_))
     rintro e w87 ⟨rfl, hb⟩
     replace hE := hE.trans hb; replace bO1_0 := BoxAt.ext hb bO1_0; replace bO5_0 := BoxAt.ext hb bO5_0; replace bO5_1 := BoxAt.ext hb bO5_1; replace bO5_2 := BoxAt.ext hb bO5_2; replace bO5_3 := BoxAt.ext hb bO5_3; have hs88 := hb.size; clear hb
     refine ⟨_, rfl, ?_⟩
     refine pT (.agg #[.int .i64 0, .int .i64 0, .slice none 0 0, .slice none 0 0]) ?_; refine pT (.int .i64 310) ?_
     refine pP (sn_setK4 (O := O5) (j := 0) (v0 := .int .i64 0) (v1 := .int .i64 0) (v2 := .slice none 0 0) (v3 := .slice none 0 0) (ex_store (p := .pointer (some ⟨O5, 0, none⟩)) (v := .agg #[.int .i64 0, .int .i64 0, .slice none 0 0, .slice none 0 0]) rfl (by kernel_rfl) (by kernel_rfl) (st31 bO5_0.1 bO5_0.2 bO5_1.1 bO5_1.2 bO5_2.1 bO5_2.2 bO5_3.1 bO5_3.2)) bO5_0 bO5_1 bO5_2 bO5_3 ?_)
     intro X89 ho hv0 hv1 hv2 hv3 hk; replace hE := ho.ext hE (T hs3 (Nat.le_of_eq hzO5)); replace bO1_0 := ho.box (Nat.ne_of_gt (Nat.lt_of_lt_of_le lt4 (Nat.le_of_eq hzO5))) bO1_0; have hs90 : w87.heap.size ≤ X89.heap.size := Nat.le_of_eq ho.size.symm; clear ho hk bO5_0 bO5_1 bO5_2 bO5_3; have bO5_0 := hv0; clear hv0; have bO5_1 := hv1; clear hv1; have bO5_2 := hv2; clear hv2; have bO5_3 := hv3; clear hv3; refine pT (.int .i64 310) ?_; refine pl_nil ?_; refine qw_then ?_; refine cC2 6 7 (fun L => ?_)
     refine cw_ret ?_
     refine qw_ret [.agg #[.int .i64 0, .int .i64 0, .slice none 0 0, .slice none 0 0], .int .i64 310] rfl ⟨⟨_, by kernel_rfl, res_ld (ld31 (bO5_0.1) (bO5_1.1) (bO5_2.1) (bO5_3.1))⟩, (by kernel_rfl), trivial⟩ ?_
     exact RetB.no (by unfold Prod.buildOk; rw [hb71]; simp) ⟨rfl, hE⟩
  ·
   refine pS (sn_call (f := 31) (args := #[.agg #[.slice a1 n1 c1]]) (by kernel_rfl) ((Valid_q (r := false) _ _ (hA) hE hb12).mono ?_))
   rintro e w91 ⟨rfl, hb⟩
   replace hE := hE.trans hb; replace bO1_0 := BoxAt.ext hb bO1_0; replace bO5_0 := BoxAt.ext hb bO5_0; replace bO5_1 := BoxAt.ext hb bO5_1; replace bO5_2 := BoxAt.ext hb bO5_2; replace bO5_3 := BoxAt.ext hb bO5_3; have hs92 := hb.size; clear hb
   refine ⟨_, rfl, ?_⟩
   refine pT (.bool true) ?_; refine pT (.bool true) ?_; refine pl_nil ?_; refine qw_then ?_
   refine cw_t (by kernel_rfl) ?_
   refine cw_seq ?_; refine cw_plain ?_; refine pT (.agg #[.int .i64 0, .int .i64 0, .slice none 0 0, .slice none 0 0]) ?_
   refine pP (sn_setK4 (O := O5) (j := 0) (v0 := .int .i64 0) (v1 := .int .i64 0) (v2 := .slice none 0 0) (v3 := .slice none 0 0) (ex_store (p := .pointer (some ⟨O5, 0, none⟩)) (v := .agg #[.int .i64 0, .int .i64 0, .slice none 0 0, .slice none 0 0]) rfl (by kernel_rfl) (by kernel_rfl) (st31 bO5_0.1 bO5_0.2 bO5_1.1 bO5_1.2 bO5_2.1 bO5_2.2 bO5_3.1 bO5_3.2)) bO5_0 bO5_1 bO5_2 bO5_3 ?_)
   intro X93 ho hv0 hv1 hv2 hv3 hk; replace hE := ho.ext hE (T hs3 (Nat.le_of_eq hzO5)); replace bO1_0 := ho.box (Nat.ne_of_gt (Nat.lt_of_lt_of_le lt4 (Nat.le_of_eq hzO5))) bO1_0; have hs94 : w91.heap.size ≤ X93.heap.size := Nat.le_of_eq ho.size.symm; clear ho hk bO5_0 bO5_1 bO5_2 bO5_3; have bO5_0 := hv0; clear hv0; have bO5_1 := hv1; clear hv1; have bO5_2 := hv2; clear hv2; have bO5_3 := hv3; clear hv3; refine pT (.int .i64 310) ?_; refine pl_nil ?_; refine qw_then ?_; refine cC2 6 7 (fun L => ?_)
   refine cw_ret ?_
   refine qw_then_ret ?_
   refine qw_ret [.agg #[.int .i64 0, .int .i64 0, .slice none 0 0, .slice none 0 0], .int .i64 310] rfl ⟨⟨_, by kernel_rfl, res_ld (ld31 (bO5_0.1) (bO5_1.1) (bO5_2.1) (bO5_3.1))⟩, (by kernel_rfl), trivial⟩ ?_
   exact RetB.no (by unfold Prod.buildOk; rw [hb12]; simp) ⟨rfl, hE⟩

end Go.Proofs.YtajdohcgjgknmaaDoor

/- Contract of package product: Next. -/
namespace Go.Proofs.YtajdohcgjgknmaaDoor
open Go.RowKit

namespace Prod
def nextVer (ver : Int) (ar : List Int) (ps : List Pc) (x : Pc) : Int := if hasIm (divide ar (ps ++ [x])) x.im = true then ver + 1 else ver
def nextOk (id ver : Int) (ar : List Int) (ps : List Pc) (x : Pc) : Bool := (okP x && (validP id ver ar ps && !hasIm ps x.im)) && validP id (nextVer ver ar ps x) ar (divide ar (ps ++ [x]))
theorem next_cases (a b c : Bool) : a = false ∨ (a = true ∧ b = false) ∨ (a = true ∧ b = true ∧ c = true) ∨ (a = true ∧ b = true ∧ c = false) := by cases a <;> cases b <;> cases c <;> simp
theorem valid_snoc {l : List Pc} {x : Pc} (h : ∀ p ∈ l, Globe.validL p.rw = true) (hx : okP x = true) : ∀ p ∈ l ++ [x], Globe.validL p.rw = true := fun p hp => by
 rcases List.mem_append.1 hp with hp | hp
 · exact h p hp
 · rw [List.mem_singleton.1 hp]; exact (okP_t.1 hx).2.2
theorem dist_snoc {l : List Pc} {x : Pc} (h : Dist l) (hx : hasIm l x.im = false) : Dist (l ++ [x]) := List.pairwise_append.2 ⟨h, List.pairwise_singleton _ _, fun p hp q hq => by rw [List.mem_singleton.1 hq]; exact hasIm_f hx p hp⟩
theorem vGo_dist : ∀ {l : List Pc} {F : List Int} {pre : List Pc}, vGo F pre l = true → Dist l ∧ ∀ p ∈ l, ∀ q ∈ pre, q.im ≠ p.im
 | [], _, _, _ => ⟨List.Pairwise.nil, fun p hp => by cases hp⟩
 | x :: l, F, pre, h => by
  rw [vGo, Bool.and_eq_true] at h
  obtain ⟨i2, i3⟩ := vGo_dist h.2
  have hn : hasIm pre x.im = false := by
   have := h.1; simp only [stepOk, Bool.and_eq_true, Bool.not_eq_true'] at this; exact this.2.2.2.2
  refine ⟨Dist.cons.2 ⟨fun y hy => i3 y hy x (by simp), i2⟩, fun p hp q hq => ?_⟩
  rcases List.mem_cons.1 hp with rfl | hp
  · exact hasIm_f hn q hq
  · exact i3 p hp q (by simp [hq])
theorem validP_dist {id ver : Int} {ar : List Int} {ps : List Pc} (h : validP id ver ar ps = true) : Dist ps := (vGo_dist (validP_t h).2.2.2.2).1
end Prod
theorem raws_flat {w : World} {b o : Nat} {rs : List RawPc} (h : ∀ (i : Nat) x, rs[i]? = some x → RawAt w b (o + i * 4) x) : ∀ j u, (rs.map RawPc.enc).flatten[j]? = some u → w.cell? ((⟨b, o, none⟩ : Addr).add j) = some u := by
 intro j u hj
 have hc : ∀ c ∈ rs.map RawPc.enc, c.length = 4 := fun c hc => by obtain ⟨x, _, rfl⟩ := List.mem_map.1 hc; rfl
 have hlen : j < rs.length * 4 := by
  have := (List.getElem?_eq_some_iff.1 hj).1
  rw [flatten_len hc, List.length_map] at this; exact this
 obtain ⟨i, q, rfl, hq⟩ : ∃ i q, j = i * 4 + q ∧ q < 4 := ⟨j / 4, j % 4, by omega, by omega⟩
 have hi : i < rs.length := by omega
 have hg := List.getElem?_eq_getElem hi
 have f := flatten_get hc i (c := rs[i].enc) (by rw [List.getElem?_map, hg]; rfl) q hq
 rw [f] at hj
 obtain ⟨c0, c1, c2, c3⟩ := h i _ hg
 rw [Addr.add_mid, ← Nat.add_assoc]
 match q, hq, hj with
 | 0, _, hj => simp [RawPc.enc] at hj; subst hj; exact c0
 | 1, _, hj => simp [RawPc.enc] at hj; subst hj; exact c1
 | 2, _, hj => simp [RawPc.enc] at hj; subst hj; exact c2
 | 3, _, hj => simp [RawPc.enc] at hj; subst hj; exact c3
theorem app_pcs {w : World} {a : Option Addr} {n O c : Nat} {l : List Prod.Pc} {x : Prod.Pc} {ax : Option Addr} {kx cx : Nat} {v : Bool} (h : PcsAt w a n l) (hp : Pl a) (d0 : w.cell? ⟨O, 0, none⟩ = some (.int .i64 x.im)) (d1 : w.cell? ⟨O, 1, none⟩ = some (.int .i64 x.t)) (d2 : w.cell? ⟨O, 2, none⟩ = some (.bool x.cl)) (d3 : w.cell? ⟨O, 3, none⟩ = some (.slice ax kx cx)) (hx : AA w ax x.rw kx v) (hn : n ≤ 1000) :
    ∃ g cap w', (Builtin.append_ #[28, 28] 28 #[.slice a n n, .slice (some ⟨O, 0, none⟩) 1 c]).run Tryd.prog w = .ok (.slice (some ⟨g, 0, none⟩) (n + 1) cap) w' ∧ PcsAt w' (some ⟨g, 0, none⟩) (n + 1) (l ++ [x]) ∧ n + 1 ≤ cap ∧ Ext w w' := by
  obtain ⟨rs, ⟨r1, r2, r3⟩, hrd⟩ := h
  obtain ⟨i0, hi, hz0, hz1, hz2⟩ := info_parts (pieceT).info
  let y : RawPc := ⟨x.im, x.t, x.cl, ax, kx, cx⟩
  have hnew : ∀ j u, y.enc[j]? = some u → w.cell? ((⟨O, 0, none⟩ : Addr).add j) = some u := fun j u hj => by
    rw [Addr.add_mid, Nat.zero_add]; exact cells4 d0 d1 d2 d3 j u hj
  have hrun : ∃ v' w', (Builtin.append_ #[28, 28] 28 #[.slice a n n, .slice (some ⟨O, 0, none⟩) 1 c]).run Tryd.prog w = .ok v' w' ∧ w'.ownsRow w.heap.size 41 4 v' (n + 1) ((rs.map RawPc.enc).flatten ++ y.enc) ∧ w.grownBy w' none := by
    have hc : ∀ c ∈ rs.map RawPc.enc, c.length = 4 := fun c hc => by obtain ⟨x, _, rfl⟩ := List.mem_map.1 hc; rfl
    rcases hp with rfl | ⟨b, o, rfl⟩
    · have h0 : n = 0 := by
        rcases r3 with r3 | ⟨b, o, e, _⟩
        · exact r3
        · cases e
      subst h0
      obtain rfl : rs = [] := List.eq_nil_of_length_eq_zero r1
      obtain ⟨v', w', q1, q2, q3, _⟩ := run_append_own (P := Tryd.prog) w w.heap.size 28 28 41 i0 _ 4 48 (pieceT).under hi hz0 hz1 hz2 (pieceT).zs (pieceT).pos (.slice none 0 0) 0 [] (World.ownsRow_nil w _ _ _) ⟨O, 0, none⟩ 1 c y.enc rfl hnew (fun u hu => enc_one y u hu) (by unfold maxLen; omega) (by omega) (Nat.le_refl _)
      exact ⟨v', w', q1, q2, q3⟩
    · have hb : ∀ (i : Nat) x, rs[i]? = some x → RawAt w b (o + i * 4) x := by
        rcases r3 with r3 | ⟨b', o', e, hx⟩
        · subst r3; obtain rfl : rs = [] := List.eq_nil_of_length_eq_zero r1
          intro i x hx; simp at hx
        · cases e; exact hx
      exact run_append_arg_grows (P := Tryd.prog) w 28 28 41 i0 _ 4 48 (pieceT).under hi hz0 hz1 hz2 (pieceT).zs (pieceT).pos ⟨b, o, none⟩ n n _ (by rw [flatten_len hc, List.length_map, r1]) (raws_flat hb) ⟨O, 0, none⟩ 1 c y.enc rfl hnew (by omega) (by unfold maxLen; omega) (by omega)
  obtain ⟨v', w', hr, hown, hg⟩ := hrun
  have hE : Ext w w' := ⟨hg.os, hg.tape, hg.output, hg.size, fun k hk => hg.block k hk (by simp)⟩
  have hfl : (rs.map RawPc.enc).flatten ++ y.enc = ((rs ++ [y]).map RawPc.enc).flatten := by simp
  rw [hfl] at hown
  rcases hown.2 with ⟨_, q⟩ | ⟨g, cap, cur, rfl, _, _, hcap, _⟩
  · omega
  · refine ⟨g, cap, w', hr, ⟨rs ++ [y], ⟨by simp [r1], by omega, .inr ⟨g, 0, rfl, fun i z hz => ?_⟩⟩, (hrd.ext hE).app ⟨⟨rfl, rfl, rfl, ?_⟩, trivial⟩⟩, hcap, hE⟩
    · have hc : ∀ c ∈ (rs ++ [y]).map RawPc.enc, c.length = 4 := fun c hc => by obtain ⟨x, _, rfl⟩ := List.mem_map.1 hc; rfl
      have hil : i < n + 1 := by have := (List.getElem?_eq_some_iff.1 hz).1; simp [r1] at this; exact this
      have k : ∀ q, q < 4 → w'.cell? ⟨g, 0 + i * 4 + q, none⟩ = z.enc[q]? := fun q hq => by
        have f := flatten_get hc i (c := z.enc) (by rw [List.getElem?_map, hz]; rfl) q hq
        rw [show 0 + i * 4 + q = i * 4 + q by omega, hown.cellAt _ (by omega), f]
      exact ⟨k 0 (by omega), k 1 (by omega), k 2 (by omega), k 3 (by omega)⟩
    · obtain ⟨q1, q2, q3, _⟩ := hx.ext hE
      exact ⟨q1, q2, q3, rfl⟩
set_option maxRecDepth 1000000 in
set_option maxHeartbeats 4000000 in
theorem Next_c {w1 w2 : World} {id ver : Int} {ar : List Int} {ps : List Prod.Pc} {a1 a : Option Addr} {n1 n : Nat} (c1 : Nat) {c : Nat} {x : Prod.Pc} {ax : Option Addr} {kx cx : Nat} {w3 : World} (w : World) (hnc : n ≤ c) (hA : AA w1 a1 ar n1 (Globe.validL ar)) (e1 : Ext w1 w) (hP : PcsAt w2 a n ps) (e2 : Ext w2 w) (hT : Tab w) (hpl : Pl a) (hx : AA w3 ax x.rw kx (Globe.validL x.rw)) (e3 : Ext w3 w) :
  Calls Tryd.prog 21 #[.agg #[.int .i64 id, .int .i64 ver, .slice a1 n1 c1, .slice a n c], .agg #[.int .i64 x.im, .int .i64 x.t, .bool x.cl, .slice ax kx cx]] w (RetB w (Prod.nextOk id ver ar ps x) id (Prod.nextVer ver ar ps x) ar (Prod.divide ar (ps ++ [x]))) := by
 replace hA := hA.ext e1; replace hP := hP.ext e2; have hnb := hP.max; have hln := hP.len; clear e1 e2
 have hX := hx.ext e3; clear e3
 have hpl9 := hpl
 refine calls_cw 57 [(1, .agg #[.int .i64 x.im, .int .i64 x.t, .bool x.cl, .slice ax kx cx]), (0, .agg #[.int .i64 id, .int .i64 ver, .slice a1 n1 c1, .slice a n c])] Tryd.func21 rfl Tryd.ntmps21 (by kernel_rfl) (by kernel_rfl) (fun L => ?_)
 have hE : Ext w w := Ext.refl w
 refine cw_seq ?_; refine cw_plain ?_
 refine pS (sn_new (us := #[.int .i64 id, .int .i64 ver, .slice a1 n1 c1, .slice a n c]) (t := 31) (by kernel_rfl) ?_)
 intro O1 X2 hzO1 hyO1 hb hbx; have ⟨bO1_0, bO1_1, bO1_2, bO1_3⟩ := bx4 hbx; clear hbx
 replace hE := hE.trans hb; have hs3 := hb.size; clear hb; have lt4 := bO1_0.lt
 refine pS (sn_new (us := #[.int .i64 x.im, .int .i64 x.t, .bool x.cl, .slice ax kx cx]) (t := 41) (by kernel_rfl) ?_)
 intro O5 X6 hzO5 hyO5 hb hbx; have ⟨bO5_0, bO5_1, bO5_2, bO5_3⟩ := bx4 hbx; clear hbx
 replace hE := hE.trans hb; replace bO1_0 := BoxAt.ext hb bO1_0; replace bO1_1 := BoxAt.ext hb bO1_1; replace bO1_2 := BoxAt.ext hb bO1_2; replace bO1_3 := BoxAt.ext hb bO1_3; have hs7 := hb.size; clear hb; have lt8 := bO5_0.lt
 refine pS (sn_new (us := #[.int .i64 0, .int .i64 0, .slice none 0 0, .slice none 0 0]) (t := 31) (by kernel_rfl) ?_)
 intro O9 X10 hzO9 hyO9 hb hbx; have ⟨bO9_0, bO9_1, bO9_2, bO9_3⟩ := bx4 hbx; clear hbx
 replace hE := hE.trans hb; replace bO1_0 := BoxAt.ext hb bO1_0; replace bO1_1 := BoxAt.ext hb bO1_1; replace bO1_2 := BoxAt.ext hb bO1_2; replace bO1_3 := BoxAt.ext hb bO1_3; replace bO5_0 := BoxAt.ext hb bO5_0; replace bO5_1 := BoxAt.ext hb bO5_1; replace bO5_2 := BoxAt.ext hb bO5_2; replace bO5_3 := BoxAt.ext hb bO5_3; have hs11 := hb.size; clear hb; have lt12 := bO9_0.lt; refine pT (.int .i64 0) ?_; refine pl_nil ?_; refine qw_then ?_; refine cw_seq ?_; refine cw_seq ?_
 rcases Prod.next_cases (Prod.okP x) (Prod.validP id ver ar ps) (Prod.hasIm ps x.im) with h1 | ⟨h1, h2⟩ | ⟨h1, h2, h3⟩ | ⟨h1, h2, h3⟩
 ·
  have hno : Prod.nextOk id ver ar ps x = false := by unfold Prod.nextOk; rw [h1]; simp
  refine cw_draw [(some 8, [3], []), (some 9, [8], [0]), (some 10, [9], [1]), (some 11, [10], [2, 1]), (some 12, [2, 11], [3]), (some 13, [12, 11], [4, 3, 3]), (some 14, [13, 11], [5, 3]), (some 15, [11, 14], [3, 6]), (some 16, [15], [7, 5]), (some 17, [2, 16], [8]), (some 18, [17, 16], [9, 8]), (some 19, [3, 16], [8]), (some 20, [19, 16], [11, 8]), (some 21, [20, 16], [12, 8, 8]), (some 22, [18, 21, 16], [10, 13, 13, 8]), (some 23, [16, 22], [8, 14])] (fun w' => w'.cell? ⟨O5, 0, none⟩ = some (.int .i64 x.im) ∧ w'.cell? ⟨O5, 1, none⟩ = some (.int .i64 x.t) ∧ w'.cell? ⟨O5, 2, none⟩ = some (.bool x.cl) ∧ w'.cell? ⟨O5, 3, none⟩ = some (.slice ax kx cx)) (by kernel_rfl) (by kernel_rfl) (by kernel_rfl) (by kernel_rfl) ((calm_then (calm_then calm_body))) (⟨bO5_0.1, bO5_1.1, bO5_2.1, bO5_3.1⟩) (fun ops Q X13 hb hL hR hK => ?_)
  replace hE := hE.trans hb; replace bO1_0 := BoxAt.ext hb bO1_0; replace bO1_1 := BoxAt.ext hb bO1_1; replace bO1_2 := BoxAt.ext hb bO1_2; replace bO1_3 := BoxAt.ext hb bO1_3; replace bO5_0 := BoxAt.ext hb bO5_0; replace bO5_1 := BoxAt.ext hb bO5_1; replace bO5_2 := BoxAt.ext hb bO5_2; replace bO5_3 := BoxAt.ext hb bO5_3; replace bO9_0 := BoxAt.ext hb bO9_0; replace bO9_1 := BoxAt.ext hb bO9_1; replace bO9_2 := BoxAt.ext hb bO9_2; replace bO9_3 := BoxAt.ext hb bO9_3; have hs14 := hb.size; clear hb
  refine wT 0 (.agg #[.int .i64 x.im, .int .i64 x.t, .bool x.cl, .slice ax kx cx]) hR (fun w hS => ex_load rfl (by kernel_rfl) (ld41 (hS.1) (hS.2.1) (hS.2.2.1) (hS.2.2.2))) (⟨bO5_0.1, bO5_1.1, bO5_2.1, bO5_3.1⟩) ?_
  refine wS 1 hR (sn_call (f := 32) (args := #[.agg #[.int .i64 x.im, .int .i64 x.t, .bool x.cl, .slice ax kx cx]]) (by kernel_rfl) ((right_r (x := x) (r := false) _ (hX) hE h1).mono ?_))
  rintro e w15 ⟨rfl, hb⟩
  replace hE := hE.trans hb; replace bO1_0 := BoxAt.ext hb bO1_0; replace bO1_1 := BoxAt.ext hb bO1_1; replace bO1_2 := BoxAt.ext hb bO1_2; replace bO1_3 := BoxAt.ext hb bO1_3; replace bO5_0 := BoxAt.ext hb bO5_0; replace bO5_1 := BoxAt.ext hb bO5_1; replace bO5_2 := BoxAt.ext hb bO5_2; replace bO5_3 := BoxAt.ext hb bO5_3; replace bO9_0 := BoxAt.ext hb bO9_0; replace bO9_1 := BoxAt.ext hb bO9_1; replace bO9_2 := BoxAt.ext hb bO9_2; replace bO9_3 := BoxAt.ext hb bO9_3; have hs16 := hb.size; clear hb
  refine ⟨_, rfl, ⟨bO5_0.1, bO5_1.1, bO5_2.1, bO5_3.1⟩, ?_⟩
  refine wT 2 (.bool true) hR (fun w _ => by kernel_rfl) (⟨bO5_0.1, bO5_1.1, bO5_2.1, bO5_3.1⟩) ?_
  refine wT 3 (.bool true) hR (fun w _ => by kernel_rfl) (⟨bO5_0.1, bO5_1.1, bO5_2.1, bO5_3.1⟩) ?_
  refine wd_skip 4 hR rfl (by kernel_rfl) rfl (by kernel_rfl) (⟨bO5_0.1, bO5_1.1, bO5_2.1, bO5_3.1⟩) ?_
  refine wd_skip 5 hR rfl (by kernel_rfl) rfl (by kernel_rfl) (⟨bO5_0.1, bO5_1.1, bO5_2.1, bO5_3.1⟩) ?_
  refine wd_skip 6 hR rfl (by kernel_rfl) rfl (by kernel_rfl) (⟨bO5_0.1, bO5_1.1, bO5_2.1, bO5_3.1⟩) ?_
  refine wT 7 (.bool true) hR (fun w _ => by kernel_rfl) (⟨bO5_0.1, bO5_1.1, bO5_2.1, bO5_3.1⟩) ?_
  refine wT 8 (.bool true) hR (fun w _ => by kernel_rfl) (⟨bO5_0.1, bO5_1.1, bO5_2.1, bO5_3.1⟩) ?_
  refine wd_skip 9 hR rfl (by kernel_rfl) rfl (by kernel_rfl) (⟨bO5_0.1, bO5_1.1, bO5_2.1, bO5_3.1⟩) ?_
  refine wd_skip 10 hR rfl (by kernel_rfl) rfl (by kernel_rfl) (⟨bO5_0.1, bO5_1.1, bO5_2.1, bO5_3.1⟩) ?_
  refine wd_skip 11 hR rfl (by kernel_rfl) rfl (by kernel_rfl) (⟨bO5_0.1, bO5_1.1, bO5_2.1, bO5_3.1⟩) ?_
  refine wd_skip 12 hR rfl (by kernel_rfl) rfl (by kernel_rfl) (⟨bO5_0.1, bO5_1.1, bO5_2.1, bO5_3.1⟩) ?_
  refine wd_skip 13 hR rfl (by kernel_rfl) rfl (by kernel_rfl) (⟨bO5_0.1, bO5_1.1, bO5_2.1, bO5_3.1⟩) ?_
  refine wd_skip 14 hR rfl (by kernel_rfl) rfl (by kernel_rfl) (⟨bO5_0.1, bO5_1.1, bO5_2.1, bO5_3.1⟩) ?_
  refine wT 15 (.bool true) hR (fun w _ => by kernel_rfl) (⟨bO5_0.1, bO5_1.1, bO5_2.1, bO5_3.1⟩) ?_
  refine wd_end hL hR hK (by kernel_rfl) ?_
  refine qw_then ?_; refine cC4 2 3 4 23 (fun L => ?_)
  refine cw_t (by kernel_rfl) ?_
  refine cw_seq ?_; refine cw_plain ?_; refine pT (.agg #[.int .i64 0, .int .i64 0, .slice none 0 0, .slice none 0 0]) ?_
  refine pP (sn_setK4 (O := O9) (j := 0) (v0 := .int .i64 0) (v1 := .int .i64 0) (v2 := .slice none 0 0) (v3 := .slice none 0 0) (ex_store (p := .pointer (some ⟨O9, 0, none⟩)) (v := .agg #[.int .i64 0, .int .i64 0, .slice none 0 0, .slice none 0 0]) rfl (by kernel_rfl) (by kernel_rfl) (st31 bO9_0.1 bO9_0.2 bO9_1.1 bO9_1.2 bO9_2.1 bO9_2.2 bO9_3.1 bO9_3.2)) bO9_0 bO9_1 bO9_2 bO9_3 ?_)
  intro X17 ho hv0 hv1 hv2 hv3 hk; replace hE := ho.ext hE (T (T hs3 hs7) (Nat.le_of_eq hzO9))
  have q9 := fun (j : Nat) (v : Value) (h : BoxAt _ O1 j v) => ho.box (Nat.ne_of_gt (Nat.lt_of_lt_of_le lt4 (T hs7 (Nat.le_of_eq hzO9)))) h
  replace bO1_0 := q9 _ _ bO1_0; replace bO1_1 := q9 _ _ bO1_1; replace bO1_2 := q9 _ _ bO1_2; replace bO1_3 := q9 _ _ bO1_3; clear q9
  have q9 := fun (j : Nat) (v : Value) (h : BoxAt _ O5 j v) => ho.box (Nat.ne_of_gt (Nat.lt_of_lt_of_le lt8 (Nat.le_of_eq hzO9))) h
  replace bO5_0 := q9 _ _ bO5_0; replace bO5_1 := q9 _ _ bO5_1; replace bO5_2 := q9 _ _ bO5_2; replace bO5_3 := q9 _ _ bO5_3; clear q9; have hs18 : w15.heap.size ≤ X17.heap.size := Nat.le_of_eq ho.size.symm; clear ho hk bO9_0 bO9_1 bO9_2 bO9_3; have bO9_0 := hv0; clear hv0; have bO9_1 := hv1; clear hv1; have bO9_2 := hv2; clear hv2; have bO9_3 := hv3; clear hv3; refine pT (.int .i64 310) ?_; refine pl_nil ?_; refine qw_then ?_
  refine cw_ret ?_
  refine qw_then_ret ?_
  refine qw_ret [.agg #[.int .i64 0, .int .i64 0, .slice none 0 0, .slice none 0 0], .int .i64 310] rfl ⟨⟨_, by kernel_rfl, res_ld (ld31 (bO9_0.1) (bO9_1.1) (bO9_2.1) (bO9_3.1))⟩, (by kernel_rfl), trivial⟩ ?_
  exact RetB.no hno ⟨rfl, hE⟩
 ·
  have hno : Prod.nextOk id ver ar ps x = false := by unfold Prod.nextOk; rw [h1, h2]; simp
  refine cw_draw [(some 8, [3], []), (some 9, [8], [0]), (some 10, [9], [1]), (some 11, [10], [2, 1]), (some 12, [2, 11], [3]), (some 13, [12, 11], [4, 3, 3]), (some 14, [13, 11], [5, 3]), (some 15, [11, 14], [3, 6]), (some 16, [15], [7, 5]), (some 17, [2, 16], [8]), (some 18, [17, 16], [9, 8]), (some 19, [3, 16], [8]), (some 20, [19, 16], [11, 8]), (some 21, [20, 16], [12, 8, 8]), (some 22, [18, 21, 16], [10, 13, 13, 8]), (some 23, [16, 22], [8, 14])] (fun w' => w'.cell? ⟨O5, 0, none⟩ = some (.int .i64 x.im) ∧ w'.cell? ⟨O5, 1, none⟩ = some (.int .i64 x.t) ∧ w'.cell? ⟨O5, 2, none⟩ = some (.bool x.cl) ∧ w'.cell? ⟨O5, 3, none⟩ = some (.slice ax kx cx) ∧ w'.cell? ⟨O1, 0, none⟩ = some (.int .i64 id) ∧ w'.cell? ⟨O1, 1, none⟩ = some (.int .i64 ver) ∧ w'.cell? ⟨O1, 2, none⟩ = some (.slice a1 n1 c1) ∧ w'.cell? ⟨O1, 3, none⟩ = some (.slice a n c)) (by kernel_rfl) (by kernel_rfl) (by kernel_rfl) (by kernel_rfl) ((calm_then (calm_then calm_body))) (⟨bO5_0.1, bO5_1.1, bO5_2.1, bO5_3.1, bO1_0.1, bO1_1.1, bO1_2.1, bO1_3.1⟩) (fun ops Q X19 hb hL hR hK => ?_)
  replace hE := hE.trans hb; replace bO1_0 := BoxAt.ext hb bO1_0; replace bO1_1 := BoxAt.ext hb bO1_1; replace bO1_2 := BoxAt.ext hb bO1_2; replace bO1_3 := BoxAt.ext hb bO1_3; replace bO5_0 := BoxAt.ext hb bO5_0; replace bO5_1 := BoxAt.ext hb bO5_1; replace bO5_2 := BoxAt.ext hb bO5_2; replace bO5_3 := BoxAt.ext hb bO5_3; replace bO9_0 := BoxAt.ext hb bO9_0; replace bO9_1 := BoxAt.ext hb bO9_1; replace bO9_2 := BoxAt.ext hb bO9_2; replace bO9_3 := BoxAt.ext hb bO9_3; have hs20 := hb.size; clear hb
  refine wT 0 (.agg #[.int .i64 x.im, .int .i64 x.t, .bool x.cl, .slice ax kx cx]) hR (fun w hS => ex_load rfl (by kernel_rfl) (ld41 (hS.1) (hS.2.1) (hS.2.2.1) (hS.2.2.2.1))) (⟨bO5_0.1, bO5_1.1, bO5_2.1, bO5_3.1, bO1_0.1, bO1_1.1, bO1_2.1, bO1_3.1⟩) ?_
  refine wS 1 hR (sn_call (f := 32) (args := #[.agg #[.int .i64 x.im, .int .i64 x.t, .bool x.cl, .slice ax kx cx]]) (by kernel_rfl) ((right_r (x := x) (r := true) _ (hX) hE h1).mono ?_))
  rintro e w21 ⟨rfl, hb⟩
  replace hE := hE.trans hb; replace bO1_0 := BoxAt.ext hb bO1_0; replace bO1_1 := BoxAt.ext hb bO1_1; replace bO1_2 := BoxAt.ext hb bO1_2; replace bO1_3 := BoxAt.ext hb bO1_3; replace bO5_0 := BoxAt.ext hb bO5_0; replace bO5_1 := BoxAt.ext hb bO5_1; replace bO5_2 := BoxAt.ext hb bO5_2; replace bO5_3 := BoxAt.ext hb bO5_3; replace bO9_0 := BoxAt.ext hb bO9_0; replace bO9_1 := BoxAt.ext hb bO9_1; replace bO9_2 := BoxAt.ext hb bO9_2; replace bO9_3 := BoxAt.ext hb bO9_3; have hs22 := hb.size; clear hb
  refine ⟨_, rfl, ⟨bO5_0.1, bO5_1.1, bO5_2.1, bO5_3.1, bO1_0.1, bO1_1.1, bO1_2.1, bO1_3.1⟩, ?_⟩
  refine wT 2 (.bool false) hR (fun w _ => by kernel_rfl) (⟨bO5_0.1, bO5_1.1, bO5_2.1, bO5_3.1, bO1_0.1, bO1_1.1, bO1_2.1, bO1_3.1⟩) ?_
  refine wT 3 (.bool false) hR (fun w _ => by kernel_rfl) (⟨bO5_0.1, bO5_1.1, bO5_2.1, bO5_3.1, bO1_0.1, bO1_1.1, bO1_2.1, bO1_3.1⟩) ?_
  refine wT 4 (.agg #[.int .i64 id, .int .i64 ver, .slice a1 n1 c1, .slice a n c]) hR (fun w hS => ex_load rfl (by kernel_rfl) (ld31 (hS.2.2.2.2.1) (hS.2.2.2.2.2.1) (hS.2.2.2.2.2.2.1) (hS.2.2.2.2.2.2.2))) (⟨bO5_0.1, bO5_1.1, bO5_2.1, bO5_3.1, bO1_0.1, bO1_1.1, bO1_2.1, bO1_3.1⟩) ?_
  refine wS 5 hR (sn_call (f := 28) (args := #[.agg #[.int .i64 id, .int .i64 ver, .slice a1 n1 c1, .slice a n c]]) (by kernel_rfl) ((pValid_r (id := id) (ver := ver) (r := false) _ _ (by omega) (aa_q (hA)) hE (hP) hE (hT.ext hE) h2).mono ?_))
  rintro e w23 ⟨rfl, hb⟩
  replace hE := hE.trans hb; replace bO1_0 := BoxAt.ext hb bO1_0; replace bO1_1 := BoxAt.ext hb bO1_1; replace bO1_2 := BoxAt.ext hb bO1_2; replace bO1_3 := BoxAt.ext hb bO1_3; replace bO5_0 := BoxAt.ext hb bO5_0; replace bO5_1 := BoxAt.ext hb bO5_1; replace bO5_2 := BoxAt.ext hb bO5_2; replace bO5_3 := BoxAt.ext hb bO5_3; replace bO9_0 := BoxAt.ext hb bO9_0; replace bO9_1 := BoxAt.ext hb bO9_1; replace bO9_2 := BoxAt.ext hb bO9_2; replace bO9_3 := BoxAt.ext hb bO9_3; have hs24 := hb.size; clear hb
  refine ⟨_, rfl, ⟨bO5_0.1, bO5_1.1, bO5_2.1, bO5_3.1, bO1_0.1, bO1_1.1, bO1_2.1, bO1_3.1⟩, ?_⟩
  refine wT 6 (.bool true) hR (fun w _ => by kernel_rfl) (⟨bO5_0.1, bO5_1.1, bO5_2.1, bO5_3.1, bO1_0.1, bO1_1.1, bO1_2.1, bO1_3.1⟩) ?_
  refine wT 7 (.bool true) hR (fun w _ => by kernel_rfl) (⟨bO5_0.1, bO5_1.1, bO5_2.1, bO5_3.1, bO1_0.1, bO1_1.1, bO1_2.1, bO1_3.1⟩) ?_
  refine wT 8 (.bool true) hR (fun w _ => by kernel_rfl) (⟨bO5_0.1, bO5_1.1, bO5_2.1, bO5_3.1, bO1_0.1, bO1_1.1, bO1_2.1, bO1_3.1⟩) ?_
  refine wd_skip 9 hR rfl (by kernel_rfl) rfl (by kernel_rfl) (⟨bO5_0.1, bO5_1.1, bO5_2.1, bO5_3.1, bO1_0.1, bO1_1.1, bO1_2.1, bO1_3.1⟩) ?_
  refine wd_skip 10 hR rfl (by kernel_rfl) rfl (by kernel_rfl) (⟨bO5_0.1, bO5_1.1, bO5_2.1, bO5_3.1, bO1_0.1, bO1_1.1, bO1_2.1, bO1_3.1⟩) ?_
  refine wd_skip 11 hR rfl (by kernel_rfl) rfl (by kernel_rfl) (⟨bO5_0.1, bO5_1.1, bO5_2.1, bO5_3.1, bO1_0.1, bO1_1.1, bO1_2.1, bO1_3.1⟩) ?_
  refine wd_skip 12 hR rfl (by kernel_rfl) rfl (by kernel_rfl) (⟨bO5_0.1, bO5_1.1, bO5_2.1, bO5_3.1, bO1_0.1, bO1_1.1, bO1_2.1, bO1_3.1⟩) ?_
  refine wd_skip 13 hR rfl (by kernel_rfl) rfl (by kernel_rfl) (⟨bO5_0.1, bO5_1.1, bO5_2.1, bO5_3.1, bO1_0.1, bO1_1.1, bO1_2.1, bO1_3.1⟩) ?_
  refine wd_skip 14 hR rfl (by kernel_rfl) rfl (by kernel_rfl) (⟨bO5_0.1, bO5_1.1, bO5_2.1, bO5_3.1, bO1_0.1, bO1_1.1, bO1_2.1, bO1_3.1⟩) ?_
  refine wT 15 (.bool true) hR (fun w _ => by kernel_rfl) (⟨bO5_0.1, bO5_1.1, bO5_2.1, bO5_3.1, bO1_0.1, bO1_1.1, bO1_2.1, bO1_3.1⟩) ?_
  refine wd_end hL hR hK (by kernel_rfl) ?_
  refine qw_then ?_; refine cC4 2 3 4 23 (fun L => ?_)
  refine cw_t (by kernel_rfl) ?_
  refine cw_seq ?_; refine cw_plain ?_; refine pT (.agg #[.int .i64 0, .int .i64 0, .slice none 0 0, .slice none 0 0]) ?_
  refine pP (sn_setK4 (O := O9) (j := 0) (v0 := .int .i64 0) (v1 := .int .i64 0) (v2 := .slice none 0 0) (v3 := .slice none 0 0) (ex_store (p := .pointer (some ⟨O9, 0, none⟩)) (v := .agg #[.int .i64 0, .int .i64 0, .slice none 0 0, .slice none 0 0]) rfl (by kernel_rfl) (by kernel_rfl) (st31 bO9_0.1 bO9_0.2 bO9_1.1 bO9_1.2 bO9_2.1 bO9_2.2 bO9_3.1 bO9_3.2)) bO9_0 bO9_1 bO9_2 bO9_3 ?_)
  intro X25 ho hv0 hv1 hv2 hv3 hk; replace hE := ho.ext hE (T (T hs3 hs7) (Nat.le_of_eq hzO9))
  have q9 := fun (j : Nat) (v : Value) (h : BoxAt _ O1 j v) => ho.box (Nat.ne_of_gt (Nat.lt_of_lt_of_le lt4 (T hs7 (Nat.le_of_eq hzO9)))) h
  replace bO1_0 := q9 _ _ bO1_0; replace bO1_1 := q9 _ _ bO1_1; replace bO1_2 := q9 _ _ bO1_2; replace bO1_3 := q9 _ _ bO1_3; clear q9
  have q9 := fun (j : Nat) (v : Value) (h : BoxAt _ O5 j v) => ho.box (Nat.ne_of_gt (Nat.lt_of_lt_of_le lt8 (Nat.le_of_eq hzO9))) h
  replace bO5_0 := q9 _ _ bO5_0; replace bO5_1 := q9 _ _ bO5_1; replace bO5_2 := q9 _ _ bO5_2; replace bO5_3 := q9 _ _ bO5_3; clear q9; have hs26 : w23.heap.size ≤ X25.heap.size := Nat.le_of_eq ho.size.symm; clear ho hk bO9_0 bO9_1 bO9_2 bO9_3; have bO9_0 := hv0; clear hv0; have bO9_1 := hv1; clear hv1; have bO9_2 := hv2; clear hv2; have bO9_3 := hv3; clear hv3; refine pT (.int .i64 310) ?_; refine pl_nil ?_; refine qw_then ?_
  refine cw_ret ?_
  refine qw_then_ret ?_
  refine qw_ret [.agg #[.int .i64 0, .int .i64 0, .slice none 0 0, .slice none 0 0], .int .i64 310] rfl ⟨⟨_, by kernel_rfl, res_ld (ld31 (bO9_0.1) (bO9_1.1) (bO9_2.1) (bO9_3.1))⟩, (by kernel_rfl), trivial⟩ ?_
  exact RetB.no hno ⟨rfl, hE⟩
 ·
  have hno : Prod.nextOk id ver ar ps x = false := by unfold Prod.nextOk; rw [h1, h2, h3]; simp
  refine cw_draw [(some 8, [3], []), (some 9, [8], [0]), (some 10, [9], [1]), (some 11, [10], [2, 1]), (some 12, [2, 11], [3]), (some 13, [12, 11], [4, 3, 3]), (some 14, [13, 11], [5, 3]), (some 15, [11, 14], [3, 6]), (some 16, [15], [7, 5]), (some 17, [2, 16], [8]), (some 18, [17, 16], [9, 8]), (some 19, [3, 16], [8]), (some 20, [19, 16], [11, 8]), (some 21, [20, 16], [12, 8, 8]), (some 22, [18, 21, 16], [10, 13, 13, 8]), (some 23, [16, 22], [8, 14])] (fun w' => w'.cell? ⟨O5, 0, none⟩ = some (.int .i64 x.im) ∧ w'.cell? ⟨O5, 1, none⟩ = some (.int .i64 x.t) ∧ w'.cell? ⟨O5, 2, none⟩ = some (.bool x.cl) ∧ w'.cell? ⟨O5, 3, none⟩ = some (.slice ax kx cx) ∧ w'.cell? ⟨O1, 0, none⟩ = some (.int .i64 id) ∧ w'.cell? ⟨O1, 1, none⟩ = some (.int .i64 ver) ∧ w'.cell? ⟨O1, 2, none⟩ = some (.slice a1 n1 c1) ∧ w'.cell? ⟨O1, 3, none⟩ = some (.slice a n c)) (by kernel_rfl) (by kernel_rfl) (by kernel_rfl) (by kernel_rfl) ((calm_then (calm_then calm_body))) (⟨bO5_0.1, bO5_1.1, bO5_2.1, bO5_3.1, bO1_0.1, bO1_1.1, bO1_2.1, bO1_3.1⟩) (fun ops Q X27 hb hL hR hK => ?_)
  replace hE := hE.trans hb; replace bO1_0 := BoxAt.ext hb bO1_0; replace bO1_1 := BoxAt.ext hb bO1_1; replace bO1_2 := BoxAt.ext hb bO1_2; replace bO1_3 := BoxAt.ext hb bO1_3; replace bO5_0 := BoxAt.ext hb bO5_0; replace bO5_1 := BoxAt.ext hb bO5_1; replace bO5_2 := BoxAt.ext hb bO5_2; replace bO5_3 := BoxAt.ext hb bO5_3; replace bO9_0 := BoxAt.ext hb bO9_0; replace bO9_1 := BoxAt.ext hb bO9_1; replace bO9_2 := BoxAt.ext hb bO9_2; replace bO9_3 := BoxAt.ext hb bO9_3; have hs28 := hb.size; clear hb
  refine wT 0 (.agg #[.int .i64 x.im, .int .i64 x.t, .bool x.cl, .slice ax kx cx]) hR (fun w hS => ex_load rfl (by kernel_rfl) (ld41 (hS.1) (hS.2.1) (hS.2.2.1) (hS.2.2.2.1))) (⟨bO5_0.1, bO5_1.1, bO5_2.1, bO5_3.1, bO1_0.1, bO1_1.1, bO1_2.1, bO1_3.1⟩) ?_
  refine wS 1 hR (sn_call (f := 32) (args := #[.agg #[.int .i64 x.im, .int .i64 x.t, .bool x.cl, .slice ax kx cx]]) (by kernel_rfl) ((right_r (x := x) (r := true) _ (hX) hE h1).mono ?_))
  rintro e w29 ⟨rfl, hb⟩
  replace hE := hE.trans hb; replace bO1_0 := BoxAt.ext hb bO1_0; replace bO1_1 := BoxAt.ext hb bO1_1; replace bO1_2 := BoxAt.ext hb bO1_2; replace bO1_3 := BoxAt.ext hb bO1_3; replace bO5_0 := BoxAt.ext hb bO5_0; replace bO5_1 := BoxAt.ext hb bO5_1; replace bO5_2 := BoxAt.ext hb bO5_2; replace bO5_3 := BoxAt.ext hb bO5_3; replace bO9_0 := BoxAt.ext hb bO9_0; replace bO9_1 := BoxAt.ext hb bO9_1; replace bO9_2 := BoxAt.ext hb bO9_2; replace bO9_3 := BoxAt.ext hb bO9_3; have hs30 := hb.size; clear hb
  refine ⟨_, rfl, ⟨bO5_0.1, bO5_1.1, bO5_2.1, bO5_3.1, bO1_0.1, bO1_1.1, bO1_2.1, bO1_3.1⟩, ?_⟩
  refine wT 2 (.bool false) hR (fun w _ => by kernel_rfl) (⟨bO5_0.1, bO5_1.1, bO5_2.1, bO5_3.1, bO1_0.1, bO1_1.1, bO1_2.1, bO1_3.1⟩) ?_
  refine wT 3 (.bool false) hR (fun w _ => by kernel_rfl) (⟨bO5_0.1, bO5_1.1, bO5_2.1, bO5_3.1, bO1_0.1, bO1_1.1, bO1_2.1, bO1_3.1⟩) ?_
  refine wT 4 (.agg #[.int .i64 id, .int .i64 ver, .slice a1 n1 c1, .slice a n c]) hR (fun w hS => ex_load rfl (by kernel_rfl) (ld31 (hS.2.2.2.2.1) (hS.2.2.2.2.2.1) (hS.2.2.2.2.2.2.1) (hS.2.2.2.2.2.2.2))) (⟨bO5_0.1, bO5_1.1, bO5_2.1, bO5_3.1, bO1_0.1, bO1_1.1, bO1_2.1, bO1_3.1⟩) ?_
  refine wS 5 hR (sn_call (f := 28) (args := #[.agg #[.int .i64 id, .int .i64 ver, .slice a1 n1 c1, .slice a n c]]) (by kernel_rfl) ((pValid_r (id := id) (ver := ver) (r := true) _ _ (by omega) (aa_q (hA)) hE (hP) hE (hT.ext hE) h2).mono ?_))
  rintro e w31 ⟨rfl, hb⟩
  replace hE := hE.trans hb; replace bO1_0 := BoxAt.ext hb bO1_0; replace bO1_1 := BoxAt.ext hb bO1_1; replace bO1_2 := BoxAt.ext hb bO1_2; replace bO1_3 := BoxAt.ext hb bO1_3; replace bO5_0 := BoxAt.ext hb bO5_0; replace bO5_1 := BoxAt.ext hb bO5_1; replace bO5_2 := BoxAt.ext hb bO5_2; replace bO5_3 := BoxAt.ext hb bO5_3; replace bO9_0 := BoxAt.ext hb bO9_0; replace bO9_1 := BoxAt.ext hb bO9_1; replace bO9_2 := BoxAt.ext hb bO9_2; replace bO9_3 := BoxAt.ext hb bO9_3; have hs32 := hb.size; clear hb
  refine ⟨_, rfl, ⟨bO5_0.1, bO5_1.1, bO5_2.1, bO5_3.1, bO1_0.1, bO1_1.1, bO1_2.1, bO1_3.1⟩, ?_⟩
  refine wT 6 (.bool false) hR (fun w _ => by kernel_rfl) (⟨bO5_0.1, bO5_1.1, bO5_2.1, bO5_3.1, bO1_0.1, bO1_1.1, bO1_2.1, bO1_3.1⟩) ?_
  refine wT 7 (.bool false) hR (fun w _ => by kernel_rfl) (⟨bO5_0.1, bO5_1.1, bO5_2.1, bO5_3.1, bO1_0.1, bO1_1.1, bO1_2.1, bO1_3.1⟩) ?_
  refine wT 8 (.bool false) hR (fun w _ => by kernel_rfl) (⟨bO5_0.1, bO5_1.1, bO5_2.1, bO5_3.1, bO1_0.1, bO1_1.1, bO1_2.1, bO1_3.1⟩) ?_
  refine wT 9 (.pointer (some ⟨O1, 3, none⟩)) hR (fun w _ => by kernel_rfl) (⟨bO5_0.1, bO5_1.1, bO5_2.1, bO5_3.1, bO1_0.1, bO1_1.1, bO1_2.1, bO1_3.1⟩) ?_
  refine wT 10 (.slice a n c) hR (fun w hS => ex_load rfl (by kernel_rfl) (ld28 (hS.2.2.2.2.2.2.2))) (⟨bO5_0.1, bO5_1.1, bO5_2.1, bO5_3.1, bO1_0.1, bO1_1.1, bO1_2.1, bO1_3.1⟩) ?_
  refine wT 11 (.pointer (some ⟨O5, 0, none⟩)) hR (fun w _ => by kernel_rfl) (⟨bO5_0.1, bO5_1.1, bO5_2.1, bO5_3.1, bO1_0.1, bO1_1.1, bO1_2.1, bO1_3.1⟩) ?_
  refine wT 12 (.int .i64 x.im) hR (fun w hS => ex_load rfl (by kernel_rfl) (ld3 (hS.1))) (⟨bO5_0.1, bO5_1.1, bO5_2.1, bO5_3.1, bO1_0.1, bO1_1.1, bO1_2.1, bO1_3.1⟩) ?_
  refine wS 13 hR (sn_call (f := 34) (args := #[.int .i64 x.im]) (by kernel_rfl) ((twin_c x.im _).mono ?_))
  rintro e w36 ⟨B33, rfl, hn34, hc35, hb⟩
  replace hE := hE.trans hb; replace bO1_0 := BoxAt.ext hb bO1_0; replace bO1_1 := BoxAt.ext hb bO1_1; replace bO1_2 := BoxAt.ext hb bO1_2; replace bO1_3 := BoxAt.ext hb bO1_3; replace bO5_0 := BoxAt.ext hb bO5_0; replace bO5_1 := BoxAt.ext hb bO5_1; replace bO5_2 := BoxAt.ext hb bO5_2; replace bO5_3 := BoxAt.ext hb bO5_3; replace bO9_0 := BoxAt.ext hb bO9_0; replace bO9_1 := BoxAt.ext hb bO9_1; replace bO9_2 := BoxAt.ext hb bO9_2; replace bO9_3 := BoxAt.ext hb bO9_3; have hs37 := hb.size; clear hb
  have lt38 := World.block_lt_of_cell? _ _ hc35
  refine ⟨_, rfl, ⟨bO5_0.1, bO5_1.1, bO5_2.1, bO5_3.1, bO1_0.1, bO1_1.1, bO1_2.1, bO1_3.1⟩, ?_⟩
  refine wS 14 hR (sn_call (f := 33) (args := #[.slice a n c, .func (.func 58) #[] #[.pointer (some ⟨B33, 0, none⟩)]]) (by kernel_rfl) ((ContainsTwin_r (r := true) _ _ (hP) hE (hc35) (Ext.refl _) h3).mono ?_))
  rintro e w39 ⟨rfl, hb⟩
  replace hE := hE.trans hb; replace bO1_0 := BoxAt.ext hb bO1_0; replace bO1_1 := BoxAt.ext hb bO1_1; replace bO1_2 := BoxAt.ext hb bO1_2; replace bO1_3 := BoxAt.ext hb bO1_3; replace bO5_0 := BoxAt.ext hb bO5_0; replace bO5_1 := BoxAt.ext hb bO5_1; replace bO5_2 := BoxAt.ext hb bO5_2; replace bO5_3 := BoxAt.ext hb bO5_3; replace bO9_0 := BoxAt.ext hb bO9_0; replace bO9_1 := BoxAt.ext hb bO9_1; replace bO9_2 := BoxAt.ext hb bO9_2; replace bO9_3 := BoxAt.ext hb bO9_3; replace hc35 := hb.cell hc35; have hs40 := hb.size; clear hb
  refine ⟨_, rfl, ⟨bO5_0.1, bO5_1.1, bO5_2.1, bO5_3.1, bO1_0.1, bO1_1.1, bO1_2.1, bO1_3.1⟩, ?_⟩
  refine wT 15 (.bool true) hR (fun w _ => by kernel_rfl) (⟨bO5_0.1, bO5_1.1, bO5_2.1, bO5_3.1, bO1_0.1, bO1_1.1, bO1_2.1, bO1_3.1⟩) ?_
  refine wd_end hL hR hK (by kernel_rfl) ?_
  refine qw_then ?_; refine cC4 2 3 4 23 (fun L => ?_)
  refine cw_t (by kernel_rfl) ?_
  refine cw_seq ?_; refine cw_plain ?_; refine pT (.agg #[.int .i64 0, .int .i64 0, .slice none 0 0, .slice none 0 0]) ?_
  refine pP (sn_setK4 (O := O9) (j := 0) (v0 := .int .i64 0) (v1 := .int .i64 0) (v2 := .slice none 0 0) (v3 := .slice none 0 0) (ex_store (p := .pointer (some ⟨O9, 0, none⟩)) (v := .agg #[.int .i64 0, .int .i64 0, .slice none 0 0, .slice none 0 0]) rfl (by kernel_rfl) (by kernel_rfl) (st31 bO9_0.1 bO9_0.2 bO9_1.1 bO9_1.2 bO9_2.1 bO9_2.2 bO9_3.1 bO9_3.2)) bO9_0 bO9_1 bO9_2 bO9_3 ?_)
  intro X41 ho hv0 hv1 hv2 hv3 hk; replace hE := ho.ext hE (T (T hs3 hs7) (Nat.le_of_eq hzO9))
  have q9 := fun (j : Nat) (v : Value) (h : BoxAt _ O1 j v) => ho.box (Nat.ne_of_gt (Nat.lt_of_lt_of_le lt4 (T hs7 (Nat.le_of_eq hzO9)))) h
  replace bO1_0 := q9 _ _ bO1_0; replace bO1_1 := q9 _ _ bO1_1; replace bO1_2 := q9 _ _ bO1_2; replace bO1_3 := q9 _ _ bO1_3; clear q9
  have q9 := fun (j : Nat) (v : Value) (h : BoxAt _ O5 j v) => ho.box (Nat.ne_of_gt (Nat.lt_of_lt_of_le lt8 (Nat.le_of_eq hzO9))) h
  replace bO5_0 := q9 _ _ bO5_0; replace bO5_1 := q9 _ _ bO5_1; replace bO5_2 := q9 _ _ bO5_2; replace bO5_3 := q9 _ _ bO5_3; clear q9; replace hc35 := ho.cell (Nat.ne_of_lt (Nat.lt_of_lt_of_le lt12 (T (T hs28 (T hs30 hs32)) hn34))) hc35; have hs42 : w39.heap.size ≤ X41.heap.size := Nat.le_of_eq ho.size.symm; clear ho hk bO9_0 bO9_1 bO9_2 bO9_3; have bO9_0 := hv0; clear hv0; have bO9_1 := hv1; clear hv1; have bO9_2 := hv2; clear hv2; have bO9_3 := hv3; clear hv3; refine pT (.int .i64 310) ?_; refine pl_nil ?_; refine qw_then ?_
  refine cw_ret ?_
  refine qw_then_ret ?_
  refine qw_ret [.agg #[.int .i64 0, .int .i64 0, .slice none 0 0, .slice none 0 0], .int .i64 310] rfl ⟨⟨_, by kernel_rfl, res_ld (ld31 (bO9_0.1) (bO9_1.1) (bO9_2.1) (bO9_3.1))⟩, (by kernel_rfl), trivial⟩ ?_
  exact RetB.no hno ⟨rfl, hE⟩
 ·
  refine cw_draw [(some 8, [3], []), (some 9, [8], [0]), (some 10, [9], [1]), (some 11, [10], [2, 1]), (some 12, [2, 11], [3]), (some 13, [12, 11], [4, 3, 3]), (some 14, [13, 11], [5, 3]), (some 15, [11, 14], [3, 6]), (some 16, [15], [7, 5]), (some 17, [2, 16], [8]), (some 18, [17, 16], [9, 8]), (some 19, [3, 16], [8]), (some 20, [19, 16], [11, 8]), (some 21, [20, 16], [12, 8, 8]), (some 22, [18, 21, 16], [10, 13, 13, 8]), (some 23, [16, 22], [8, 14])] (fun w' => w'.cell? ⟨O5, 0, none⟩ = some (.int .i64 x.im) ∧ w'.cell? ⟨O5, 1, none⟩ = some (.int .i64 x.t) ∧ w'.cell? ⟨O5, 2, none⟩ = some (.bool x.cl) ∧ w'.cell? ⟨O5, 3, none⟩ = some (.slice ax kx cx) ∧ w'.cell? ⟨O1, 0, none⟩ = some (.int .i64 id) ∧ w'.cell? ⟨O1, 1, none⟩ = some (.int .i64 ver) ∧ w'.cell? ⟨O1, 2, none⟩ = some (.slice a1 n1 c1) ∧ w'.cell? ⟨O1, 3, none⟩ = some (.slice a n c)) (by kernel_rfl) (by kernel_rfl) (by kernel_rfl) (by kernel_rfl) ((calm_then (calm_then calm_body))) (⟨bO5_0.1, bO5_1.1, bO5_2.1, bO5_3.1, bO1_0.1, bO1_1.1, bO1_2.1, bO1_3.1⟩) (fun ops Q X43 hb hL hR hK => ?_)
  replace hE := hE.trans hb; replace bO1_0 := BoxAt.ext hb bO1_0; replace bO1_1 := BoxAt.ext hb bO1_1; replace bO1_2 := BoxAt.ext hb bO1_2; replace bO1_3 := BoxAt.ext hb bO1_3; replace bO5_0 := BoxAt.ext hb bO5_0; replace bO5_1 := BoxAt.ext hb bO5_1; replace bO5_2 := BoxAt.ext hb bO5_2; replace bO5_3 := BoxAt.ext hb bO5_3; replace bO9_0 := BoxAt.ext hb bO9_0; replace bO9_1 := BoxAt.ext hb bO9_1; replace bO9_2 := BoxAt.ext hb bO9_2; replace bO9_3 := BoxAt.ext hb bO9_3; have hs44 := hb.size; clear hb
  refine wT 0 (.agg #[.int .i64 x.im, .int .i64 x.t, .bool x.cl, .slice ax kx cx]) hR (fun w hS => ex_load rfl (by kernel_rfl) (ld41 (hS.1) (hS.2.1) (hS.2.2.1) (hS.2.2.2.1))) (⟨bO5_0.1, bO5_1.1, bO5_2.1, bO5_3.1, bO1_0.1, bO1_1.1, bO1_2.1, bO1_3.1⟩) ?_
  refine wS 1 hR (sn_call (f := 32) (args := #[.agg #[.int .i64 x.im, .int .i64 x.t, .bool x.cl, .slice ax kx cx]]) (by kernel_rfl) ((right_r (x := x) (r := true) _ (hX) hE h1).mono ?_))
  rintro e w45 ⟨rfl, hb⟩
  replace hE := hE.trans hb; replace bO1_0 := BoxAt.ext hb bO1_0; replace bO1_1 := BoxAt.ext hb bO1_1; replace bO1_2 := BoxAt.ext hb bO1_2; replace bO1_3 := BoxAt.ext hb bO1_3; replace bO5_0 := BoxAt.ext hb bO5_0; replace bO5_1 := BoxAt.ext hb bO5_1; replace bO5_2 := BoxAt.ext hb bO5_2; replace bO5_3 := BoxAt.ext hb bO5_3; replace bO9_0 := BoxAt.ext hb bO9_0; replace bO9_1 := BoxAt.ext hb bO9_1; replace bO9_2 := BoxAt.ext hb bO9_2; replace bO9_3 := BoxAt.ext hb bO9_3; have hs46 := hb.size; clear hb
  refine ⟨_, rfl, ⟨bO5_0.1, bO5_1.1, bO5_2.1, bO5_3.1, bO1_0.1, bO1_1.1, bO1_2.1, bO1_3.1⟩, ?_⟩
  refine wT 2 (.bool false) hR (fun w _ => by kernel_rfl) (⟨bO5_0.1, bO5_1.1, bO5_2.1, bO5_3.1, bO1_0.1, bO1_1.1, bO1_2.1, bO1_3.1⟩) ?_
  refine wT 3 (.bool false) hR (fun w _ => by kernel_rfl) (⟨bO5_0.1, bO5_1.1, bO5_2.1, bO5_3.1, bO1_0.1, bO1_1.1, bO1_2.1, bO1_3.1⟩) ?_
  refine wT 4 (.agg #[.int .i64 id, .int .i64 ver, .slice a1 n1 c1, .slice a n c]) hR (fun w hS => ex_load rfl (by kernel_rfl) (ld31 (hS.2.2.2.2.1) (hS.2.2.2.2.2.1) (hS.2.2.2.2.2.2.1) (hS.2.2.2.2.2.2.2))) (⟨bO5_0.1, bO5_1.1, bO5_2.1, bO5_3.1, bO1_0.1, bO1_1.1, bO1_2.1, bO1_3.1⟩) ?_
  refine wS 5 hR (sn_call (f := 28) (args := #[.agg #[.int .i64 id, .int .i64 ver, .slice a1 n1 c1, .slice a n c]]) (by kernel_rfl) ((pValid_r (id := id) (ver := ver) (r := true) _ _ (by omega) (aa_q (hA)) hE (hP) hE (hT.ext hE) h2).mono ?_))
  rintro e w47 ⟨rfl, hb⟩
  replace hE := hE.trans hb; replace bO1_0 := BoxAt.ext hb bO1_0; replace bO1_1 := BoxAt.ext hb bO1_1; replace bO1_2 := BoxAt.ext hb bO1_2; replace bO1_3 := BoxAt.ext hb bO1_3; replace bO5_0 := BoxAt.ext hb bO5_0; replace bO5_1 := BoxAt.ext hb bO5_1; replace bO5_2 := BoxAt.ext hb bO5_2; replace bO5_3 := BoxAt.ext hb bO5_3; replace bO9_0 := BoxAt.ext hb bO9_0; replace bO9_1 := BoxAt.ext hb bO9_1; replace bO9_2 := BoxAt.ext hb bO9_2; replace bO9_3 := BoxAt.ext hb bO9_3; have hs48 := hb.size; clear hb
  refine ⟨_, rfl, ⟨bO5_0.1, bO5_1.1, bO5_2.1, bO5_3.1, bO1_0.1, bO1_1.1, bO1_2.1, bO1_3.1⟩, ?_⟩
  refine wT 6 (.bool false) hR (fun w _ => by kernel_rfl) (⟨bO5_0.1, bO5_1.1, bO5_2.1, bO5_3.1, bO1_0.1, bO1_1.1, bO1_2.1, bO1_3.1⟩) ?_
  refine wT 7 (.bool false) hR (fun w _ => by kernel_rfl) (⟨bO5_0.1, bO5_1.1, bO5_2.1, bO5_3.1, bO1_0.1, bO1_1.1, bO1_2.1, bO1_3.1⟩) ?_
  refine wT 8 (.bool false) hR (fun w _ => by kernel_rfl) (⟨bO5_0.1, bO5_1.1, bO5_2.1, bO5_3.1, bO1_0.1, bO1_1.1, bO1_2.1, bO1_3.1⟩) ?_
  refine wT 9 (.pointer (some ⟨O1, 3, none⟩)) hR (fun w _ => by kernel_rfl) (⟨bO5_0.1, bO5_1.1, bO5_2.1, bO5_3.1, bO1_0.1, bO1_1.1, bO1_2.1, bO1_3.1⟩) ?_
  refine wT 10 (.slice a n c) hR (fun w hS => ex_load rfl (by kernel_rfl) (ld28 (hS.2.2.2.2.2.2.2))) (⟨bO5_0.1, bO5_1.1, bO5_2.1, bO5_3.1, bO1_0.1, bO1_1.1, bO1_2.1, bO1_3.1⟩) ?_
  refine wT 11 (.pointer (some ⟨O5, 0, none⟩)) hR (fun w _ => by kernel_rfl) (⟨bO5_0.1, bO5_1.1, bO5_2.1, bO5_3.1, bO1_0.1, bO1_1.1, bO1_2.1, bO1_3.1⟩) ?_
  refine wT 12 (.int .i64 x.im) hR (fun w hS => ex_load rfl (by kernel_rfl) (ld3 (hS.1))) (⟨bO5_0.1, bO5_1.1, bO5_2.1, bO5_3.1, bO1_0.1, bO1_1.1, bO1_2.1, bO1_3.1⟩) ?_
  refine wS 13 hR (sn_call (f := 34) (args := #[.int .i64 x.im]) (by kernel_rfl) ((twin_c x.im _).mono ?_))
  rintro e w52 ⟨B49, rfl, hn50, hc51, hb⟩
  replace hE := hE.trans hb; replace bO1_0 := BoxAt.ext hb bO1_0; replace bO1_1 := BoxAt.ext hb bO1_1; replace bO1_2 := BoxAt.ext hb bO1_2; replace bO1_3 := BoxAt.ext hb bO1_3; replace bO5_0 := BoxAt.ext hb bO5_0; replace bO5_1 := BoxAt.ext hb bO5_1; replace bO5_2 := BoxAt.ext hb bO5_2; replace bO5_3 := BoxAt.ext hb bO5_3; replace bO9_0 := BoxAt.ext hb bO9_0; replace bO9_1 := BoxAt.ext hb bO9_1; replace bO9_2 := BoxAt.ext hb bO9_2; replace bO9_3 := BoxAt.ext hb bO9_3; have hs53 := hb.size; clear hb
  have lt54 := World.block_lt_of_cell? _ _ hc51
  refine ⟨_, rfl, ⟨bO5_0.1, bO5_1.1, bO5_2.1, bO5_3.1, bO1_0.1, bO1_1.1, bO1_2.1, bO1_3.1⟩, ?_⟩
  refine wS 14 hR (sn_call (f := 33) (args := #[.slice a n c, .func (.func 58) #[] #[.pointer (some ⟨B49, 0, none⟩)]]) (by kernel_rfl) ((ContainsTwin_r (r := false) _ _ (hP) hE (hc51) (Ext.refl _) h3).mono ?_))
  rintro e w55 ⟨rfl, hb⟩
  replace hE := hE.trans hb; replace bO1_0 := BoxAt.ext hb bO1_0; replace bO1_1 := BoxAt.ext hb bO1_1; replace bO1_2 := BoxAt.ext hb bO1_2; replace bO1_3 := BoxAt.ext hb bO1_3; replace bO5_0 := BoxAt.ext hb bO5_0; replace bO5_1 := BoxAt.ext hb bO5_1; replace bO5_2 := BoxAt.ext hb bO5_2; replace bO5_3 := BoxAt.ext hb bO5_3; replace bO9_0 := BoxAt.ext hb bO9_0; replace bO9_1 := BoxAt.ext hb bO9_1; replace bO9_2 := BoxAt.ext hb bO9_2; replace bO9_3 := BoxAt.ext hb bO9_3; replace hc51 := hb.cell hc51; have hs56 := hb.size; clear hb
  refine ⟨_, rfl, ⟨bO5_0.1, bO5_1.1, bO5_2.1, bO5_3.1, bO1_0.1, bO1_1.1, bO1_2.1, bO1_3.1⟩, ?_⟩
  refine wT 15 (.bool false) hR (fun w _ => by kernel_rfl) (⟨bO5_0.1, bO5_1.1, bO5_2.1, bO5_3.1, bO1_0.1, bO1_1.1, bO1_2.1, bO1_3.1⟩) ?_
  refine wd_end hL hR hK (by kernel_rfl) ?_
  refine qw_then ?_; refine cC4 2 3 4 23 (fun L => ?_)
  refine cw_f (by kernel_rfl) ?_
  refine cw_skip ?_
  refine qw_then ?_; refine cw_seq ?_
  obtain ⟨hid9, hver9, hva, hlen9, -⟩ := Prod.validP_t h2
  have hok := Prod.validP_pcs h2
  have hd := Prod.validP_dist h2
  obtain ⟨b57, o58, rfl, rfl, hV59⟩ := va_of hA hva
  have lt60 := hV59.lt
  have hok2 := Prod.valid_snoc hok h1; have hd2 := Prod.dist_snoc hd h3
  refine cw_draw [(some 25, [2], []), (some 26, [25], [0]), (some 27, [2], []), (some 28, [27], [2]), (some 29, [28], [3]), (some 30, [2], []), (some 31, [30], [5]), (some 32, [31], [6]), (some 33, [26, 29, 32], [1, 4, 7]), (some 34, [3], []), (some 35, [34], [9]), (some 36, [33, 35], [8, 10]), (some 6, [36], [11, 11, 0, 1, 2, 3, 4, 5, 6, 7, 8, 9, 10, 11])] (fun w' => w'.cell? ⟨O1, 3, none⟩ = some (.slice a n c) ∧ w'.cell? ⟨O5, 0, none⟩ = some (.int .i64 x.im) ∧ w'.cell? ⟨O5, 1, none⟩ = some (.int .i64 x.t) ∧ w'.cell? ⟨O5, 2, none⟩ = some (.bool x.cl) ∧ w'.cell? ⟨O5, 3, none⟩ = some (.slice ax kx cx)) (by kernel_rfl) (by kernel_rfl) (by kernel_rfl) (by kernel_rfl) ((calm_then calm_body)) (⟨bO1_3.1, bO5_0.1, bO5_1.1, bO5_2.1, bO5_3.1⟩) (fun ops Q X61 hb hL hR hK => ?_)
  replace hE := hE.trans hb; replace bO1_0 := BoxAt.ext hb bO1_0; replace bO1_1 := BoxAt.ext hb bO1_1; replace bO1_2 := BoxAt.ext hb bO1_2; replace bO1_3 := BoxAt.ext hb bO1_3; replace bO5_0 := BoxAt.ext hb bO5_0; replace bO5_1 := BoxAt.ext hb bO5_1; replace bO5_2 := BoxAt.ext hb bO5_2; replace bO5_3 := BoxAt.ext hb bO5_3; replace bO9_0 := BoxAt.ext hb bO9_0; replace bO9_1 := BoxAt.ext hb bO9_1; replace bO9_2 := BoxAt.ext hb bO9_2; replace bO9_3 := BoxAt.ext hb bO9_3; replace hc51 := hb.cell hc51; have hs62 := hb.size; clear hb
  refine wT 0 (.pointer (some ⟨O1, 3, none⟩)) hR (fun w _ => by kernel_rfl) (⟨bO1_3.1, bO5_0.1, bO5_1.1, bO5_2.1, bO5_3.1⟩) ?_
  refine wT 1 (.slice a n c) hR (fun w hS => ex_load rfl (by kernel_rfl) (ld28 (hS.1))) (⟨bO1_3.1, bO5_0.1, bO5_1.1, bO5_2.1, bO5_3.1⟩) ?_
  refine wT 2 (.pointer (some ⟨O1, 3, none⟩)) hR (fun w _ => by kernel_rfl) (⟨bO1_3.1, bO5_0.1, bO5_1.1, bO5_2.1, bO5_3.1⟩) ?_
  refine wT 3 (.slice a n c) hR (fun w hS => ex_load rfl (by kernel_rfl) (ld28 (hS.1))) (⟨bO1_3.1, bO5_0.1, bO5_1.1, bO5_2.1, bO5_3.1⟩) ?_
  refine wT 4 (.int .i64 (((n : Nat) : Int) : Int)) hR (fun w _ => by kernel_rfl) (⟨bO1_3.1, bO5_0.1, bO5_1.1, bO5_2.1, bO5_3.1⟩) ?_
  refine wT 5 (.pointer (some ⟨O1, 3, none⟩)) hR (fun w _ => by kernel_rfl) (⟨bO1_3.1, bO5_0.1, bO5_1.1, bO5_2.1, bO5_3.1⟩) ?_
  refine wT 6 (.slice a n c) hR (fun w hS => ex_load rfl (by kernel_rfl) (ld28 (hS.1))) (⟨bO1_3.1, bO5_0.1, bO5_1.1, bO5_2.1, bO5_3.1⟩) ?_
  refine wT 7 (.int .i64 (((n : Nat) : Int) : Int)) hR (fun w _ => by kernel_rfl) (⟨bO1_3.1, bO5_0.1, bO5_1.1, bO5_2.1, bO5_3.1⟩) ?_
  refine wT 8 (.slice a n n) hR (fun w _ => ex_slice (p := .slice a n c) rfl (by kernel_rfl) (by kernel_rfl) (by kernel_rfl) (by kernel_rfl) (sl28_011a (m := n) (r := n) (by omega) (by omega) (by omega))) (⟨bO1_3.1, bO5_0.1, bO5_1.1, bO5_2.1, bO5_3.1⟩) ?_
  refine wT 9 (.agg #[.int .i64 x.im, .int .i64 x.t, .bool x.cl, .slice ax kx cx]) hR (fun w hS => ex_load rfl (by kernel_rfl) (ld41 (hS.2.1) (hS.2.2.1) (hS.2.2.2.1) (hS.2.2.2.2))) (⟨bO1_3.1, bO5_0.1, bO5_1.1, bO5_2.1, bO5_3.1⟩) ?_
  refine wS 10 hR (sn_newS (us := #[.int .i64 x.im, .int .i64 x.t, .bool x.cl, .slice ax kx cx]) (t := 41) (k := 1) (c := 1) (by kernel_rfl) ?_)
  intro O63 X64 hzO63 hyO63 hb hbx; have ⟨bO63_0, bO63_1, bO63_2, bO63_3⟩ := bx4 hbx; clear hbx
  replace hE := hE.trans hb; replace bO1_0 := BoxAt.ext hb bO1_0; replace bO1_1 := BoxAt.ext hb bO1_1; replace bO1_2 := BoxAt.ext hb bO1_2; replace bO1_3 := BoxAt.ext hb bO1_3; replace bO5_0 := BoxAt.ext hb bO5_0; replace bO5_1 := BoxAt.ext hb bO5_1; replace bO5_2 := BoxAt.ext hb bO5_2; replace bO5_3 := BoxAt.ext hb bO5_3; replace bO9_0 := BoxAt.ext hb bO9_0; replace bO9_1 := BoxAt.ext hb bO9_1; replace bO9_2 := BoxAt.ext hb bO9_2; replace bO9_3 := BoxAt.ext hb bO9_3; replace hc51 := hb.cell hc51; have hs65 := hb.size; clear hb; have lt66 := bO63_0.lt
  refine ⟨⟨bO1_3.1, bO5_0.1, bO5_1.1, bO5_2.1, bO5_3.1⟩, ?_⟩
  obtain ⟨g67, cap68, w69, hrun70, hP71, hnc72, hb⟩ := app_pcs (O := O63) (c := 1) (x := x) ((hP).ext hE) hpl9 (bO63_0.1) (bO63_1.1) (bO63_2.1) (bO63_3.1) (AA.ext (aa_q (hX)) hE) (by omega)
  refine wS 11 hR (sn_eff (v := .slice (some ⟨g67, 0, none⟩) (n + 1) cap68) (w' := w69) (ex_append rfl (by kernel_rfl) (by kernel_rfl) hrun70) ?_)
  replace hE := hE.trans hb; replace bO1_0 := BoxAt.ext hb bO1_0; replace bO1_1 := BoxAt.ext hb bO1_1; replace bO1_2 := BoxAt.ext hb bO1_2; replace bO1_3 := BoxAt.ext hb bO1_3; replace bO5_0 := BoxAt.ext hb bO5_0; replace bO5_1 := BoxAt.ext hb bO5_1; replace bO5_2 := BoxAt.ext hb bO5_2; replace bO5_3 := BoxAt.ext hb bO5_3; replace bO9_0 := BoxAt.ext hb bO9_0; replace bO9_1 := BoxAt.ext hb bO9_1; replace bO9_2 := BoxAt.ext hb bO9_2; replace bO9_3 := BoxAt.ext hb bO9_3; replace hc51 := hb.cell hc51; replace bO63_0 := BoxAt.ext hb bO63_0; replace bO63_1 := BoxAt.ext hb bO63_1; replace bO63_2 := BoxAt.ext hb bO63_2; replace bO63_3 := BoxAt.ext hb bO63_3; have hs74 := hb.size; clear hb
  refine ⟨⟨bO1_3.1, bO5_0.1, bO5_1.1, bO5_2.1, bO5_3.1⟩, ?_⟩
  have hX75 : Ext w69 w69 := Ext.refl _
  refine wT 12 (.slice (some ⟨g67, 0, none⟩) (n + 1) cap68) hR (fun w _ => by kernel_rfl) (⟨bO1_3.1, bO5_0.1, bO5_1.1, bO5_2.1, bO5_3.1⟩) ?_
  refine wd_end hL hR hK (by kernel_rfl) ?_
  refine qw_then ?_; refine cC4 2 3 4 6 (fun L => ?_); refine cw_seq ?_; refine cw_plain ?_; refine pT (.pointer (some ⟨O1, 1, none⟩)) ?_
  refine pU (.int .i64 ver) (ex_load rfl (by kernel_rfl) (ld3 (bO1_1.1))) ?_
  refine pT (.int .i64 ver) ?_; refine pl_nil ?_; refine qw_then ?_; refine cw_seq ?_; refine cw_seq ?_
  rcases Bool.eq_false_or_eq_true (Prod.hasIm (Prod.divide ar (ps ++ [x])) x.im) with h4 | h4
  ·
   have hnv : Prod.nextVer ver ar ps x = ver + 1 := by unfold Prod.nextVer; rw [h4]; rfl
   refine cw_draw [(some 39, [2], []), (some 40, [39], [0]), (some 41, [6], []), (some 42, [40, 41], [1, 2]), (some 43, [3], []), (some 44, [43], [4]), (some 45, [44], [5, 3]), (some 46, [42, 45], [3, 6, 6])] (fun w' => w'.cell? ⟨O1, 2, none⟩ = some (.slice (some ⟨b57, o58, none⟩) 24 c1) ∧ w'.cell? ⟨O5, 0, none⟩ = some (.int .i64 x.im)) (by kernel_rfl) (by kernel_rfl) (by kernel_rfl) (by kernel_rfl) ((calm_then (calm_then calm_body))) (⟨bO1_2.1, bO5_0.1⟩) (fun ops Q X76 hb hL hR hK => ?_)
   replace hE := hE.trans hb; replace hX75 := hX75.trans hb; replace bO1_0 := BoxAt.ext hb bO1_0; replace bO1_1 := BoxAt.ext hb bO1_1; replace bO1_2 := BoxAt.ext hb bO1_2; replace bO1_3 := BoxAt.ext hb bO1_3; replace bO5_0 := BoxAt.ext hb bO5_0; replace bO5_1 := BoxAt.ext hb bO5_1; replace bO5_2 := BoxAt.ext hb bO5_2; replace bO5_3 := BoxAt.ext hb bO5_3; replace bO9_0 := BoxAt.ext hb bO9_0; replace bO9_1 := BoxAt.ext hb bO9_1; replace bO9_2 := BoxAt.ext hb bO9_2; replace bO9_3 := BoxAt.ext hb bO9_3; replace hc51 := hb.cell hc51; replace bO63_0 := BoxAt.ext hb bO63_0; replace bO63_1 := BoxAt.ext hb bO63_1; replace bO63_2 := BoxAt.ext hb bO63_2; replace bO63_3 := BoxAt.ext hb bO63_3; have hs77 := hb.size; clear hb
   refine wT 0 (.pointer (some ⟨O1, 2, none⟩)) hR (fun w _ => by kernel_rfl) (⟨bO1_2.1, bO5_0.1⟩) ?_
   refine wT 1 (.agg #[.slice (some ⟨b57, o58, none⟩) 24 c1]) hR (fun w hS => ex_load rfl (by kernel_rfl) (ld26 (hS.1))) (⟨bO1_2.1, bO5_0.1⟩) ?_
   refine wT 2 (.slice (some ⟨g67, 0, none⟩) (n + 1) cap68) hR (fun w _ => by kernel_rfl) (⟨bO1_2.1, bO5_0.1⟩) ?_
   refine wT 4 (.pointer (some ⟨O5, 0, none⟩)) hR (fun w _ => by kernel_rfl) (⟨bO1_2.1, bO5_0.1⟩) ?_
   refine wT 5 (.int .i64 x.im) hR (fun w hS => ex_load rfl (by kernel_rfl) (ld3 (hS.2))) (⟨bO1_2.1, bO5_0.1⟩) ?_
   refine wS 3 hR (sn_call (f := 44) (args := #[.agg #[.slice (some ⟨b57, o58, none⟩) 24 c1], .slice (some ⟨g67, 0, none⟩) (n + 1) cap68]) (by kernel_rfl) ((divide_c _ _ _ (hP71) hX75 hV59 hE (by omega) hd2 (hT.ext hE) hok2).mono ?_))
   rintro e w84 ⟨a78, n79, c80, rfl, hP81, hnc82, hpl83, hb⟩
   replace hE := hE.trans hb; replace hX75 := hX75.trans hb; replace bO1_0 := BoxAt.ext hb bO1_0; replace bO1_1 := BoxAt.ext hb bO1_1; replace bO1_2 := BoxAt.ext hb bO1_2; replace bO1_3 := BoxAt.ext hb bO1_3; replace bO5_0 := BoxAt.ext hb bO5_0; replace bO5_1 := BoxAt.ext hb bO5_1; replace bO5_2 := BoxAt.ext hb bO5_2; replace bO5_3 := BoxAt.ext hb bO5_3; replace bO9_0 := BoxAt.ext hb bO9_0; replace bO9_1 := BoxAt.ext hb bO9_1; replace bO9_2 := BoxAt.ext hb bO9_2; replace bO9_3 := BoxAt.ext hb bO9_3; replace hc51 := hb.cell hc51; replace bO63_0 := BoxAt.ext hb bO63_0; replace bO63_1 := BoxAt.ext hb bO63_1; replace bO63_2 := BoxAt.ext hb bO63_2; replace bO63_3 := BoxAt.ext hb bO63_3; have hs85 := hb.size; clear hb
   have hP81r := PcsS.mono (T := fun k => w69.heap.size ≤ k) hP81 (fun k hk => T hs77 hk)
   refine ⟨_, rfl, ⟨bO1_2.1, bO5_0.1⟩, ?_⟩
   refine wS 6 hR (sn_call (f := 34) (args := #[.int .i64 x.im]) (by kernel_rfl) ((twin_c x.im _).mono ?_))
   rintro e w89 ⟨B86, rfl, hn87, hc88, hb⟩
   replace hE := hE.trans hb; replace hX75 := hX75.trans hb; replace bO1_0 := BoxAt.ext hb bO1_0; replace bO1_1 := BoxAt.ext hb bO1_1; replace bO1_2 := BoxAt.ext hb bO1_2; replace bO1_3 := BoxAt.ext hb bO1_3; replace bO5_0 := BoxAt.ext hb bO5_0; replace bO5_1 := BoxAt.ext hb bO5_1; replace bO5_2 := BoxAt.ext hb bO5_2; replace bO5_3 := BoxAt.ext hb bO5_3; replace bO9_0 := BoxAt.ext hb bO9_0; replace bO9_1 := BoxAt.ext hb bO9_1; replace bO9_2 := BoxAt.ext hb bO9_2; replace bO9_3 := BoxAt.ext hb bO9_3; replace hc51 := hb.cell hc51; replace bO63_0 := BoxAt.ext hb bO63_0; replace bO63_1 := BoxAt.ext hb bO63_1; replace bO63_2 := BoxAt.ext hb bO63_2; replace bO63_3 := BoxAt.ext hb bO63_3; replace hP81r := hP81r.ext hb; have hs90 := hb.size; clear hb
   have lt91 := World.block_lt_of_cell? _ _ hc88
   refine ⟨_, rfl, ⟨bO1_2.1, bO5_0.1⟩, ?_⟩
   refine wS 7 hR (sn_call (f := 33) (args := #[.slice a78 n79 c80, .func (.func 58) #[] #[.pointer (some ⟨B86, 0, none⟩)]]) (by kernel_rfl) ((ContainsTwin_r (r := true) _ _ (hP81r.pcs) (Ext.refl _) (hc88) (Ext.refl _) h4).mono ?_))
   rintro e w92 ⟨rfl, hb⟩
   replace hE := hE.trans hb; replace hX75 := hX75.trans hb; replace bO1_0 := BoxAt.ext hb bO1_0; replace bO1_1 := BoxAt.ext hb bO1_1; replace bO1_2 := BoxAt.ext hb bO1_2; replace bO1_3 := BoxAt.ext hb bO1_3; replace bO5_0 := BoxAt.ext hb bO5_0; replace bO5_1 := BoxAt.ext hb bO5_1; replace bO5_2 := BoxAt.ext hb bO5_2; replace bO5_3 := BoxAt.ext hb bO5_3; replace bO9_0 := BoxAt.ext hb bO9_0; replace bO9_1 := BoxAt.ext hb bO9_1; replace bO9_2 := BoxAt.ext hb bO9_2; replace bO9_3 := BoxAt.ext hb bO9_3; replace hc51 := hb.cell hc51; replace bO63_0 := BoxAt.ext hb bO63_0; replace bO63_1 := BoxAt.ext hb bO63_1; replace bO63_2 := BoxAt.ext hb bO63_2; replace bO63_3 := BoxAt.ext hb bO63_3; replace hP81r := hP81r.ext hb; replace hc88 := hb.cell hc88; have hs93 := hb.size; clear hb
   refine ⟨_, rfl, ⟨bO1_2.1, bO5_0.1⟩, ?_⟩
   refine wd_end hL hR hK (by kernel_rfl) ?_
   refine qw_then ?_; refine cC5 2 4 6 7 46 (fun L => ?_)
   refine cw_t (by kernel_rfl) ?_
   refine cw_plain ?_; refine pT (.int .i64 ver) ?_
   refine pU (.int .i64 (ver + 1 : Int)) (ev_wrap (by kernel_rfl) (by omega) (by omega)) ?_
   refine pT (.int .i64 (ver + 1 : Int)) ?_; refine pl_nil ?_; refine qw_then ?_; refine cw_seq ?_; refine cw_plain ?_
   refine pU (.agg #[.int .i64 id, .int .i64 ver, .slice (some ⟨b57, o58, none⟩) 24 c1, .slice a n c]) (ex_load rfl (by kernel_rfl) (ld31 (bO1_0.1) (bO1_1.1) (bO1_2.1) (bO1_3.1))) ?_
   refine pT (.int .i64 (ver + 1 : Int)) ?_; refine pT (.pointer (some ⟨O1, 2, none⟩)) ?_
   refine pU (.agg #[.slice (some ⟨b57, o58, none⟩) 24 c1]) (ex_load rfl (by kernel_rfl) (ld26 (bO1_2.1))) ?_
   refine pT (.slice (some ⟨g67, 0, none⟩) (n + 1) cap68) ?_
   rcases Bool.eq_false_or_eq_true (Prod.validP id (ver + 1) ar (Prod.divide ar (ps ++ [x]))) with hb94 | hb94
   ·
    refine pS (sn_call (f := 35) (args := #[.agg #[.int .i64 id, .int .i64 ver, .slice (some ⟨b57, o58, none⟩) 24 c1, .slice a n c], .int .i64 (ver + 1 : Int), .agg #[.slice (some ⟨b57, o58, none⟩) 24 c1], .slice (some ⟨g67, 0, none⟩) (n + 1) cap68]) (by kernel_rfl) ((made_t (l := ps ++ [x]) _ _ _ hV59 hE (hP71) hX75 (by omega) hd2 hok2 (hT.ext hE) hb94).mono ?_))
    rintro e w106 ⟨a95, n96, k97, a98, n99, c100, rfl, hA101, hfr102, hP103, hnc104, hpl105, hb⟩
    replace hE := hE.trans hb; replace hX75 := hX75.trans hb; replace bO1_0 := BoxAt.ext hb bO1_0; replace bO1_1 := BoxAt.ext hb bO1_1; replace bO1_2 := BoxAt.ext hb bO1_2; replace bO1_3 := BoxAt.ext hb bO1_3; replace bO5_0 := BoxAt.ext hb bO5_0; replace bO5_1 := BoxAt.ext hb bO5_1; replace bO5_2 := BoxAt.ext hb bO5_2; replace bO5_3 := BoxAt.ext hb bO5_3; replace bO9_0 := BoxAt.ext hb bO9_0; replace bO9_1 := BoxAt.ext hb bO9_1; replace bO9_2 := BoxAt.ext hb bO9_2; replace bO9_3 := BoxAt.ext hb bO9_3; replace hc51 := hb.cell hc51; replace bO63_0 := BoxAt.ext hb bO63_0; replace bO63_1 := BoxAt.ext hb bO63_1; replace bO63_2 := BoxAt.ext hb bO63_2; replace bO63_3 := BoxAt.ext hb bO63_3; replace hP81r := hP81r.ext hb; replace hc88 := hb.cell hc88; have hs107 := hb.size; clear hb
    have hA101r : AFr (fun k => w92.heap.size ≤ k) w106 a95 ar n96 := ⟨hA101, fun ad e => T (Nat.le_refl _) (hfr102 ad e)⟩
    have hP103r := PcsS.mono (T := fun k => w92.heap.size ≤ k) hP103 (fun k hk => T (Nat.le_refl _) hk)
    refine ⟨_, rfl, ?_⟩
    refine pT (.agg #[.int .i64 id, .int .i64 (ver + 1 : Int), .slice a95 n96 k97, .slice a98 n99 c100]) ?_; refine pT (.int .i64 0) ?_
    refine pP (sn_setK4 (O := O9) (j := 0) (v0 := .int .i64 id) (v1 := .int .i64 (ver + 1 : Int)) (v2 := .slice a95 n96 k97) (v3 := .slice a98 n99 c100) (ex_store (p := .pointer (some ⟨O9, 0, none⟩)) (v := .agg #[.int .i64 id, .int .i64 (ver + 1 : Int), .slice a95 n96 k97, .slice a98 n99 c100]) rfl (by kernel_rfl) (by kernel_rfl) (st31 bO9_0.1 bO9_0.2 bO9_1.1 bO9_1.2 bO9_2.1 bO9_2.2 bO9_3.1 bO9_3.2)) bO9_0 bO9_1 bO9_2 bO9_3 ?_)
    intro X108 ho hv0 hv1 hv2 hv3 hk; replace hE := ho.ext hE (T (T hs3 hs7) (Nat.le_of_eq hzO9))
    have q9 := fun (j : Nat) (v : Value) (h : BoxAt _ O1 j v) => ho.box (Nat.ne_of_gt (Nat.lt_of_lt_of_le lt4 (T hs7 (Nat.le_of_eq hzO9)))) h
    replace bO1_0 := q9 _ _ bO1_0; replace bO1_1 := q9 _ _ bO1_1; replace bO1_2 := q9 _ _ bO1_2; replace bO1_3 := q9 _ _ bO1_3; clear q9
    have q9 := fun (j : Nat) (v : Value) (h : BoxAt _ O5 j v) => ho.box (Nat.ne_of_gt (Nat.lt_of_lt_of_le lt8 (Nat.le_of_eq hzO9))) h
    replace bO5_0 := q9 _ _ bO5_0; replace bO5_1 := q9 _ _ bO5_1; replace bO5_2 := q9 _ _ bO5_2; replace bO5_3 := q9 _ _ bO5_3; clear q9; replace hc51 := ho.cell (Nat.ne_of_lt (Nat.lt_of_lt_of_le lt12 (T (T hs44 (T hs46 hs48)) hn50))) hc51
    have q9 := fun (j : Nat) (v : Value) (h : BoxAt _ O63 j v) => ho.box (Nat.ne_of_lt (Nat.lt_of_lt_of_le lt12 (T (T hs44 (T hs46 (T hs48 (T hs53 (T hs56 hs62))))) (Nat.le_of_eq hzO63)))) h
    replace bO63_0 := q9 _ _ bO63_0; replace bO63_1 := q9 _ _ bO63_1; replace bO63_2 := q9 _ _ bO63_2; replace bO63_3 := q9 _ _ bO63_3; clear q9; replace hP81r := hP81r.turn ho (Nat.not_le_of_lt (Nat.lt_of_lt_of_le lt12 (T hs44 (T hs46 (T hs48 (T hs53 (T hs56 (T hs62 (T hs65 hs74))))))))); replace hc88 := ho.cell (Nat.ne_of_lt (Nat.lt_of_lt_of_le lt12 (T (T hs44 (T hs46 (T hs48 (T hs53 (T hs56 (T hs62 (T hs65 (T hs74 (T hs77 hs85))))))))) hn87))) hc88; replace hA101r := hA101r.turn ho (Nat.not_le_of_lt (Nat.lt_of_lt_of_le lt12 (T hs44 (T hs46 (T hs48 (T hs53 (T hs56 (T hs62 (T hs65 (T hs74 (T hs77 (T hs85 (T hs90 hs93))))))))))))); replace hP103r := hP103r.turn ho (Nat.not_le_of_lt (Nat.lt_of_lt_of_le lt12 (T hs44 (T hs46 (T hs48 (T hs53 (T hs56 (T hs62 (T hs65 (T hs74 (T hs77 (T hs85 (T hs90 hs93))))))))))))); have hs109 : w106.heap.size ≤ X108.heap.size := Nat.le_of_eq ho.size.symm; clear ho hk bO9_0 bO9_1 bO9_2 bO9_3; have bO9_0 := hv0; clear hv0; have bO9_1 := hv1; clear hv1; have bO9_2 := hv2; clear hv2; have bO9_3 := hv3; clear hv3; refine pT (.int .i64 0) ?_; refine pl_nil ?_; refine qw_then ?_; refine cC2 4 5 (fun L => ?_)
    refine cw_ret ?_
    refine qw_ret [.agg #[.int .i64 id, .int .i64 (ver + 1 : Int), .slice a95 n96 k97, .slice a98 n99 c100], .int .i64 0] rfl ⟨⟨_, by kernel_rfl, res_ld (ld31 (bO9_0.1) (bO9_1.1) (bO9_2.1) (bO9_3.1))⟩, (by kernel_rfl), trivial⟩ ?_
    have hnk : Prod.nextOk id ver ar ps x = true := by unfold Prod.nextOk; rw [hnv, h1, h2, h3, hb94]; rfl
    rw [hnv]
    exact RetB.yes hnk ⟨_, _, _, _, _, _, rfl, (hA101r).1, fun ad e => T (T hs3 (T hs7 (T hs11 (T hs44 (T hs46 (T hs48 (T hs53 (T hs56 (T hs62 (T hs65 (T hs74 (T hs77 (T hs85 (T hs90 hs93)))))))))))))) ((hA101r).2 ad e), (hP103r).mono fun k hk => T (T hs3 (T hs7 (T hs11 (T hs44 (T hs46 (T hs48 (T hs53 (T hs56 (T hs62 (T hs65 (T hs74 (T hs77 (T hs85 (T hs90 hs93)))))))))))))) hk, by omega, hpl105, hE⟩
   ·
    refine pS (sn_call (f := 35) (args := #[.agg #[.int .i64 id, .int .i64 ver, .slice (some ⟨b57, o58, none⟩) 24 c1, .slice a n c], .int .i64 (ver + 1 : Int), .agg #[.slice (some ⟨b57, o58, none⟩) 24 c1], .slice (some ⟨g67, 0, none⟩) (n + 1) cap68]) (by kernel_rfl) ((made_f (l := ps ++ [x]) _ _ _ hV59 hE (hP71) hX75 (by omega) hd2 hok2 (hT.ext hE) hb94).mono ?_))
    rintro e w110 ⟨rfl, hb⟩
    replace hE := hE.trans hb; replace hX75 := hX75.trans hb; replace bO1_0 := BoxAt.ext hb bO1_0; replace bO1_1 := BoxAt.ext hb bO1_1; replace bO1_2 := BoxAt.ext hb bO1_2; replace bO1_3 := BoxAt.ext hb bO1_3; replace bO5_0 := BoxAt.ext hb bO5_0; replace bO5_1 := BoxAt.ext hb bO5_1; replace bO5_2 := BoxAt.ext hb bO5_2; replace bO5_3 := BoxAt.ext hb bO5_3; replace bO9_0 := BoxAt.ext hb bO9_0; replace bO9_1 := BoxAt.ext hb bO9_1; replace bO9_2 := BoxAt.ext hb bO9_2; replace bO9_3 := BoxAt.ext hb bO9_3; replace hc51 := hb.cell hc51; replace bO63_0 := BoxAt.ext hb bO63_0; replace bO63_1 := BoxAt.ext hb bO63_1; replace bO63_2 := BoxAt.ext hb bO63_2; replace bO63_3 := BoxAt.ext hb bO63_3; replace hP81r := hP81r.ext hb; replace hc88 := hb.cell hc88; have hs111 := hb.size; clear hb
    refine ⟨_, rfl, ?_⟩
    refine pT (.agg #[.int .i64 0, .int .i64 0, .slice none 0 0, .slice none 0 0]) ?_; refine pT (.int .i64 310) ?_
    refine pP (sn_setK4 (O := O9) (j := 0) (v0 := .int .i64 0) (v1 := .int .i64 0) (v2 := .slice none 0 0) (v3 := .slice none 0 0) (ex_store (p := .pointer (some ⟨O9, 0, none⟩)) (v := .agg #[.int .i64 0, .int .i64 0, .slice none 0 0, .slice none 0 0]) rfl (by kernel_rfl) (by kernel_rfl) (st31 bO9_0.1 bO9_0.2 bO9_1.1 bO9_1.2 bO9_2.1 bO9_2.2 bO9_3.1 bO9_3.2)) bO9_0 bO9_1 bO9_2 bO9_3 ?_)
    intro X112 ho hv0 hv1 hv2 hv3 hk; replace hE := ho.ext hE (T (T hs3 hs7) (Nat.le_of_eq hzO9))
    have q9 := fun (j : Nat) (v : Value) (h : BoxAt _ O1 j v) => ho.box (Nat.ne_of_gt (Nat.lt_of_lt_of_le lt4 (T hs7 (Nat.le_of_eq hzO9)))) h
    replace bO1_0 := q9 _ _ bO1_0; replace bO1_1 := q9 _ _ bO1_1; replace bO1_2 := q9 _ _ bO1_2; replace bO1_3 := q9 _ _ bO1_3; clear q9
    have q9 := fun (j : Nat) (v : Value) (h : BoxAt _ O5 j v) => ho.box (Nat.ne_of_gt (Nat.lt_of_lt_of_le lt8 (Nat.le_of_eq hzO9))) h
    replace bO5_0 := q9 _ _ bO5_0; replace bO5_1 := q9 _ _ bO5_1; replace bO5_2 := q9 _ _ bO5_2; replace bO5_3 := q9 _ _ bO5_3; clear q9; replace hc51 := ho.cell (Nat.ne_of_lt (Nat.lt_of_lt_of_le lt12 (T (T hs44 (T hs46 hs48)) hn50))) hc51
    have q9 := fun (j : Nat) (v : Value) (h : BoxAt _ O63 j v) => ho.box (Nat.ne_of_lt (Nat.lt_of_lt_of_le lt12 (T (T hs44 (T hs46 (T hs48 (T hs53 (T hs56 hs62))))) (Nat.le_of_eq hzO63)))) h
    replace bO63_0 := q9 _ _ bO63_0; replace bO63_1 := q9 _ _ bO63_1; replace bO63_2 := q9 _ _ bO63_2; replace bO63_3 := q9 _ _ bO63_3; clear q9; replace hP81r := hP81r.turn ho (Nat.not_le_of_lt (Nat.lt_of_lt_of_le lt12 (T hs44 (T hs46 (T hs48 (T hs53 (T hs56 (T hs62 (T hs65 hs74))))))))); replace hc88 := ho.cell (Nat.ne_of_lt (Nat.lt_of_lt_of_le lt12 (T (T hs44 (T hs46 (T hs48 (T hs53 (T hs56 (T hs62 (T hs65 (T hs74 (T hs77 hs85))))))))) hn87))) hc88; have hs113 : w110.heap.size ≤ X112.heap.size := Nat.le_of_eq ho.size.symm; clear ho hk bO9_0 bO9_1 bO9_2 bO9_3; have bO9_0 := hv0; clear hv0; have bO9_1 := hv1; clear hv1; have bO9_2 := hv2; clear hv2; have bO9_3 := hv3; clear hv3; refine pT (.int .i64 310) ?_; refine pl_nil ?_; refine qw_then ?_; refine cC2 4 5 (fun L => ?_)
    refine cw_ret ?_
    refine qw_ret [.agg #[.int .i64 0, .int .i64 0, .slice none 0 0, .slice none 0 0], .int .i64 310] rfl ⟨⟨_, by kernel_rfl, res_ld (ld31 (bO9_0.1) (bO9_1.1) (bO9_2.1) (bO9_3.1))⟩, (by kernel_rfl), trivial⟩ ?_
    have hnk : Prod.nextOk id ver ar ps x = false := by unfold Prod.nextOk; rw [hnv, h1, h2, h3, hb94]; rfl
    exact RetB.no hnk ⟨rfl, hE⟩
  ·
   have hnv : Prod.nextVer ver ar ps x = ver := by unfold Prod.nextVer; rw [h4]; rfl
   refine cw_draw [(some 39, [2], []), (some 40, [39], [0]), (some 41, [6], []), (some 42, [40, 41], [1, 2]), (some 43, [3], []), (some 44, [43], [4]), (some 45, [44], [5, 3]), (some 46, [42, 45], [3, 6, 6])] (fun w' => w'.cell? ⟨O1, 2, none⟩ = some (.slice (some ⟨b57, o58, none⟩) 24 c1) ∧ w'.cell? ⟨O5, 0, none⟩ = some (.int .i64 x.im)) (by kernel_rfl) (by kernel_rfl) (by kernel_rfl) (by kernel_rfl) ((calm_then (calm_then calm_body))) (⟨bO1_2.1, bO5_0.1⟩) (fun ops Q X114 hb hL hR hK => ?_)
   replace hE := hE.trans hb; replace hX75 := hX75.trans hb; replace bO1_0 := BoxAt.ext hb bO1_0; replace bO1_1 := BoxAt.ext hb bO1_1; replace bO1_2 := BoxAt.ext hb bO1_2; replace bO1_3 := BoxAt.ext hb bO1_3; replace bO5_0 := BoxAt.ext hb bO5_0; replace bO5_1 := BoxAt.ext hb bO5_1; replace bO5_2 := BoxAt.ext hb bO5_2; replace bO5_3 := BoxAt.ext hb bO5_3; replace bO9_0 := BoxAt.ext hb bO9_0; replace bO9_1 := BoxAt.ext hb bO9_1; replace bO9_2 := BoxAt.ext hb bO9_2; replace bO9_3 := BoxAt.ext hb bO9_3; replace hc51 := hb.cell hc51; replace bO63_0 := BoxAt.ext hb bO63_0; replace bO63_1 := BoxAt.ext hb bO63_1; replace bO63_2 := BoxAt.ext hb bO63_2; replace bO63_3 := BoxAt.ext hb bO63_3; have hs115 := hb.size; clear hb
   refine wT 0 (.pointer (some ⟨O1, 2, none⟩)) hR (fun w _ => by kernel_rfl) (⟨bO1_2.1, bO5_0.1⟩) ?_
   refine wT 1 (.agg #[.slice (some ⟨b57, o58, none⟩) 24 c1]) hR (fun w hS => ex_load rfl (by kernel_rfl) (ld26 (hS.1))) (⟨bO1_2.1, bO5_0.1⟩) ?_
   refine wT 2 (.slice (some ⟨g67, 0, none⟩) (n + 1) cap68) hR (fun w _ => by kernel_rfl) (⟨bO1_2.1, bO5_0.1⟩) ?_
   refine wT 4 (.pointer (some ⟨O5, 0, none⟩)) hR (fun w _ => by kernel_rfl) (⟨bO1_2.1, bO5_0.1⟩) ?_
   refine wT 5 (.int .i64 x.im) hR (fun w hS => ex_load rfl (by kernel_rfl) (ld3 (hS.2))) (⟨bO1_2.1, bO5_0.1⟩) ?_
   refine wS 3 hR (sn_call (f := 44) (args := #[.agg #[.slice (some ⟨b57, o58, none⟩) 24 c1], .slice (some ⟨g67, 0, none⟩) (n + 1) cap68]) (by kernel_rfl) ((divide_c _ _ _ (hP71) hX75 hV59 hE (by omega) hd2 (hT.ext hE) hok2).mono ?_))
   rintro e w122 ⟨a116, n117, c118, rfl, hP119, hnc120, hpl121, hb⟩
   replace hE := hE.trans hb; replace hX75 := hX75.trans hb; replace bO1_0 := BoxAt.ext hb bO1_0; replace bO1_1 := BoxAt.ext hb bO1_1; replace bO1_2 := BoxAt.ext hb bO1_2; replace bO1_3 := BoxAt.ext hb bO1_3; replace bO5_0 := BoxAt.ext hb bO5_0; replace bO5_1 := BoxAt.ext hb bO5_1; replace bO5_2 := BoxAt.ext hb bO5_2; replace bO5_3 := BoxAt.ext hb bO5_3; replace bO9_0 := BoxAt.ext hb bO9_0; replace bO9_1 := BoxAt.ext hb bO9_1; replace bO9_2 := BoxAt.ext hb bO9_2; replace bO9_3 := BoxAt.ext hb bO9_3; replace hc51 := hb.cell hc51; replace bO63_0 := BoxAt.ext hb bO63_0; replace bO63_1 := BoxAt.ext hb bO63_1; replace bO63_2 := BoxAt.ext hb bO63_2; replace bO63_3 := BoxAt.ext hb bO63_3; have hs123 := hb.size; clear hb
   have hP119r := PcsS.mono (T := fun k => w69.heap.size ≤ k) hP119 (fun k hk => T hs115 hk)
   refine ⟨_, rfl, ⟨bO1_2.1, bO5_0.1⟩, ?_⟩
   refine wS 6 hR (sn_call (f := 34) (args := #[.int .i64 x.im]) (by kernel_rfl) ((twin_c x.im _).mono ?_))
   rintro e w127 ⟨B124, rfl, hn125, hc126, hb⟩
   replace hE := hE.trans hb; replace hX75 := hX75.trans hb; replace bO1_0 := BoxAt.ext hb bO1_0; replace bO1_1 := BoxAt.ext hb bO1_1; replace bO1_2 := BoxAt.ext hb bO1_2; replace bO1_3 := BoxAt.ext hb bO1_3; replace bO5_0 := BoxAt.ext hb bO5_0; replace bO5_1 := BoxAt.ext hb bO5_1; replace bO5_2 := BoxAt.ext hb bO5_2; replace bO5_3 := BoxAt.ext hb bO5_3; replace bO9_0 := BoxAt.ext hb bO9_0; replace bO9_1 := BoxAt.ext hb bO9_1; replace bO9_2 := BoxAt.ext hb bO9_2; replace bO9_3 := BoxAt.ext hb bO9_3; replace hc51 := hb.cell hc51; replace bO63_0 := BoxAt.ext hb bO63_0; replace bO63_1 := BoxAt.ext hb bO63_1; replace bO63_2 := BoxAt.ext hb bO63_2; replace bO63_3 := BoxAt.ext hb bO63_3; replace hP119r := hP119r.ext hb; have hs128 := hb.size; clear hb
   have lt129 := World.block_lt_of_cell? _ _ hc126
   refine ⟨_, rfl, ⟨bO1_2.1, bO5_0.1⟩, ?_⟩
   refine wS 7 hR (sn_call (f := 33) (args := #[.slice a116 n117 c118, .func (.func 58) #[] #[.pointer (some ⟨B124, 0, none⟩)]]) (by kernel_rfl) ((ContainsTwin_r (r := false) _ _ (hP119r.pcs) (Ext.refl _) (hc126) (Ext.refl _) h4).mono ?_))
   rintro e w130 ⟨rfl, hb⟩
   replace hE := hE.trans hb; replace hX75 := hX75.trans hb; replace bO1_0 := BoxAt.ext hb bO1_0; replace bO1_1 := BoxAt.ext hb bO1_1; replace bO1_2 := BoxAt.ext hb bO1_2; replace bO1_3 := BoxAt.ext hb bO1_3; replace bO5_0 := BoxAt.ext hb bO5_0; replace bO5_1 := BoxAt.ext hb bO5_1; replace bO5_2 := BoxAt.ext hb bO5_2; replace bO5_3 := BoxAt.ext hb bO5_3; replace bO9_0 := BoxAt.ext hb bO9_0; replace bO9_1 := BoxAt.ext hb bO9_1; replace bO9_2 := BoxAt.ext hb bO9_2; replace bO9_3 := BoxAt.ext hb bO9_3; replace hc51 := hb.cell hc51; replace bO63_0 := BoxAt.ext hb bO63_0; replace bO63_1 := BoxAt.ext hb bO63_1; replace bO63_2 := BoxAt.ext hb bO63_2; replace bO63_3 := BoxAt.ext hb bO63_3; replace hP119r := hP119r.ext hb; replace hc126 := hb.cell hc126; have hs131 := hb.size; clear hb
   refine ⟨_, rfl, ⟨bO1_2.1, bO5_0.1⟩, ?_⟩
   refine wd_end hL hR hK (by kernel_rfl) ?_
   refine qw_then ?_; refine cC5 2 4 6 7 46 (fun L => ?_)
   refine cw_f (by kernel_rfl) ?_
   refine cw_skip ?_
   refine qw_then ?_; refine cw_seq ?_; refine cw_plain ?_
   refine pU (.agg #[.int .i64 id, .int .i64 ver, .slice (some ⟨b57, o58, none⟩) 24 c1, .slice a n c]) (ex_load rfl (by kernel_rfl) (ld31 (bO1_0.1) (bO1_1.1) (bO1_2.1) (bO1_3.1))) ?_
   refine pT (.int .i64 ver) ?_; refine pT (.pointer (some ⟨O1, 2, none⟩)) ?_
   refine pU (.agg #[.slice (some ⟨b57, o58, none⟩) 24 c1]) (ex_load rfl (by kernel_rfl) (ld26 (bO1_2.1))) ?_
   refine pT (.slice (some ⟨g67, 0, none⟩) (n + 1) cap68) ?_
   rcases Bool.eq_false_or_eq_true (Prod.validP id ver ar (Prod.divide ar (ps ++ [x]))) with hb132 | hb132
   ·
    refine pS (sn_call (f := 35) (args := #[.agg #[.int .i64 id, .int .i64 ver, .slice (some ⟨b57, o58, none⟩) 24 c1, .slice a n c], .int .i64 ver, .agg #[.slice (some ⟨b57, o58, none⟩) 24 c1], .slice (some ⟨g67, 0, none⟩) (n + 1) cap68]) (by kernel_rfl) ((made_t (l := ps ++ [x]) _ _ _ hV59 hE (hP71) hX75 (by omega) hd2 hok2 (hT.ext hE) hb132).mono ?_))
    rintro e w144 ⟨a133, n134, k135, a136, n137, c138, rfl, hA139, hfr140, hP141, hnc142, hpl143, hb⟩
    replace hE := hE.trans hb; replace hX75 := hX75.trans hb; replace bO1_0 := BoxAt.ext hb bO1_0; replace bO1_1 := BoxAt.ext hb bO1_1; replace bO1_2 := BoxAt.ext hb bO1_2; replace bO1_3 := BoxAt.ext hb bO1_3; replace bO5_0 := BoxAt.ext hb bO5_0; replace bO5_1 := BoxAt.ext hb bO5_1; replace bO5_2 := BoxAt.ext hb bO5_2; replace bO5_3 := BoxAt.ext hb bO5_3; replace bO9_0 := BoxAt.ext hb bO9_0; replace bO9_1 := BoxAt.ext hb bO9_1; replace bO9_2 := BoxAt.ext hb bO9_2; replace bO9_3 := BoxAt.ext hb bO9_3; replace hc51 := hb.cell hc51; replace bO63_0 := BoxAt.ext hb bO63_0; replace bO63_1 := BoxAt.ext hb bO63_1; replace bO63_2 := BoxAt.ext hb bO63_2; replace bO63_3 := BoxAt.ext hb bO63_3; replace hP119r := hP119r.ext hb; replace hc126 := hb.cell hc126; have hs145 := hb.size; clear hb
    have hA139r : AFr (fun k => w130.heap.size ≤ k) w144 a133 ar n134 := ⟨hA139, fun ad e => T (Nat.le_refl _) (hfr140 ad e)⟩
    have hP141r := PcsS.mono (T := fun k => w130.heap.size ≤ k) hP141 (fun k hk => T (Nat.le_refl _) hk)
    refine ⟨_, rfl, ?_⟩
    refine pT (.agg #[.int .i64 id, .int .i64 ver, .slice a133 n134 k135, .slice a136 n137 c138]) ?_; refine pT (.int .i64 0) ?_
    refine pP (sn_setK4 (O := O9) (j := 0) (v0 := .int .i64 id) (v1 := .int .i64 ver) (v2 := .slice a133 n134 k135) (v3 := .slice a136 n137 c138) (ex_store (p := .pointer (some ⟨O9, 0, none⟩)) (v := .agg #[.int .i64 id, .int .i64 ver, .slice a133 n134 k135, .slice a136 n137 c138]) rfl (by kernel_rfl) (by kernel_rfl) (st31 bO9_0.1 bO9_0.2 bO9_1.1 bO9_1.2 bO9_2.1 bO9_2.2 bO9_3.1 bO9_3.2)) bO9_0 bO9_1 bO9_2 bO9_3 ?_)
    intro X146 ho hv0 hv1 hv2 hv3 hk; replace hE := ho.ext hE (T (T hs3 hs7) (Nat.le_of_eq hzO9))
    have q9 := fun (j : Nat) (v : Value) (h : BoxAt _ O1 j v) => ho.box (Nat.ne_of_gt (Nat.lt_of_lt_of_le lt4 (T hs7 (Nat.le_of_eq hzO9)))) h
    replace bO1_0 := q9 _ _ bO1_0; replace bO1_1 := q9 _ _ bO1_1; replace bO1_2 := q9 _ _ bO1_2; replace bO1_3 := q9 _ _ bO1_3; clear q9
    have q9 := fun (j : Nat) (v : Value) (h : BoxAt _ O5 j v) => ho.box (Nat.ne_of_gt (Nat.lt_of_lt_of_le lt8 (Nat.le_of_eq hzO9))) h
    replace bO5_0 := q9 _ _ bO5_0; replace bO5_1 := q9 _ _ bO5_1; replace bO5_2 := q9 _ _ bO5_2; replace bO5_3 := q9 _ _ bO5_3; clear q9; replace hc51 := ho.cell (Nat.ne_of_lt (Nat.lt_of_lt_of_le lt12 (T (T hs44 (T hs46 hs48)) hn50))) hc51
    have q9 := fun (j : Nat) (v : Value) (h : BoxAt _ O63 j v) => ho.box (Nat.ne_of_lt (Nat.lt_of_lt_of_le lt12 (T (T hs44 (T hs46 (T hs48 (T hs53 (T hs56 hs62))))) (Nat.le_of_eq hzO63)))) h
    replace bO63_0 := q9 _ _ bO63_0; replace bO63_1 := q9 _ _ bO63_1; replace bO63_2 := q9 _ _ bO63_2; replace bO63_3 := q9 _ _ bO63_3; clear q9; replace hP119r := hP119r.turn ho (Nat.not_le_of_lt (Nat.lt_of_lt_of_le lt12 (T hs44 (T hs46 (T hs48 (T hs53 (T hs56 (T hs62 (T hs65 hs74))))))))); replace hc126 := ho.cell (Nat.ne_of_lt (Nat.lt_of_lt_of_le lt12 (T (T hs44 (T hs46 (T hs48 (T hs53 (T hs56 (T hs62 (T hs65 (T hs74 (T hs115 hs123))))))))) hn125))) hc126; replace hA139r := hA139r.turn ho (Nat.not_le_of_lt (Nat.lt_of_lt_of_le lt12 (T hs44 (T hs46 (T hs48 (T hs53 (T hs56 (T hs62 (T hs65 (T hs74 (T hs115 (T hs123 (T hs128 hs131))))))))))))); replace hP141r := hP141r.turn ho (Nat.not_le_of_lt (Nat.lt_of_lt_of_le lt12 (T hs44 (T hs46 (T hs48 (T hs53 (T hs56 (T hs62 (T hs65 (T hs74 (T hs115 (T hs123 (T hs128 hs131))))))))))))); have hs147 : w144.heap.size ≤ X146.heap.size := Nat.le_of_eq ho.size.symm; clear ho hk bO9_0 bO9_1 bO9_2 bO9_3; have bO9_0 := hv0; clear hv0; have bO9_1 := hv1; clear hv1; have bO9_2 := hv2; clear hv2; have bO9_3 := hv3; clear hv3; refine pT (.int .i64 0) ?_; refine pl_nil ?_; refine qw_then ?_
    refine cw_ret ?_
    refine qw_ret [.agg #[.int .i64 id, .int .i64 ver, .slice a133 n134 k135, .slice a136 n137 c138], .int .i64 0] rfl ⟨⟨_, by kernel_rfl, res_ld (ld31 (bO9_0.1) (bO9_1.1) (bO9_2.1) (bO9_3.1))⟩, (by kernel_rfl), trivial⟩ ?_
    have hnk : Prod.nextOk id ver ar ps x = true := by unfold Prod.nextOk; rw [hnv, h1, h2, h3, hb132]; rfl
    rw [hnv]
    exact RetB.yes hnk ⟨_, _, _, _, _, _, rfl, (hA139r).1, fun ad e => T (T hs3 (T hs7 (T hs11 (T hs44 (T hs46 (T hs48 (T hs53 (T hs56 (T hs62 (T hs65 (T hs74 (T hs115 (T hs123 (T hs128 hs131)))))))))))))) ((hA139r).2 ad e), (hP141r).mono fun k hk => T (T hs3 (T hs7 (T hs11 (T hs44 (T hs46 (T hs48 (T hs53 (T hs56 (T hs62 (T hs65 (T hs74 (T hs115 (T hs123 (T hs128 hs131)))))))))))))) hk, by omega, hpl143, hE⟩
   ·
    refine pS (sn_call (f := 35) (args := #[.agg #[.int .i64 id, .int .i64 ver, .slice (some ⟨b57, o58, none⟩) 24 c1, .slice a n c], .int .i64 ver, .agg #[.slice (some ⟨b57, o58, none⟩) 24 c1], .slice (some ⟨g67, 0, none⟩) (n + 1) cap68]) (by kernel_rfl) ((made_f (l := ps ++ [x]) _ _ _ hV59 hE (hP71) hX75 (by omega) hd2 hok2 (hT.ext hE) hb132).mono ?_))
    rintro e w148 ⟨rfl, hb⟩
    replace hE := hE.trans hb; replace hX75 := hX75.trans hb; replace bO1_0 := BoxAt.ext hb bO1_0; replace bO1_1 := BoxAt.ext hb bO1_1; replace bO1_2 := BoxAt.ext hb bO1_2; replace bO1_3 := BoxAt.ext hb bO1_3; replace bO5_0 := BoxAt.ext hb bO5_0; replace bO5_1 := BoxAt.ext hb bO5_1; replace bO5_2 := BoxAt.ext hb bO5_2; replace bO5_3 := BoxAt.ext hb bO5_3; replace bO9_0 := BoxAt.ext hb bO9_0; replace bO9_1 := BoxAt.ext hb bO9_1; replace bO9_2 := BoxAt.ext hb bO9_2; replace bO9_3 := BoxAt.ext hb bO9_3; replace hc51 := hb.cell hc51; replace bO63_0 := BoxAt.ext hb bO63_0; replace bO63_1 := BoxAt.ext hb bO63_1; replace bO63_2 := BoxAt.ext hb bO63_2; replace bO63_3 := BoxAt.ext hb bO63_3; replace hP119r := hP119r.ext hb; replace hc126 := hb.cell hc126; have hs149 := hb.size; clear hb
    refine ⟨_, rfl, ?_⟩
    refine pT (.agg #[.int .i64 0, .int .i64 0, .slice none 0 0, .slice none 0 0]) ?_; refine pT (.int .i64 310) ?_
    refine pP (sn_setK4 (O := O9) (j := 0) (v0 := .int .i64 0) (v1 := .int .i64 0) (v2 := .slice none 0 0) (v3 := .slice none 0 0) (ex_store (p := .pointer (some ⟨O9, 0, none⟩)) (v := .agg #[.int .i64 0, .int .i64 0, .slice none 0 0, .slice none 0 0]) rfl (by kernel_rfl) (by kernel_rfl) (st31 bO9_0.1 bO9_0.2 bO9_1.1 bO9_1.2 bO9_2.1 bO9_2.2 bO9_3.1 bO9_3.2)) bO9_0 bO9_1 bO9_2 bO9_3 ?_)
    intro X150 ho hv0 hv1 hv2 hv3 hk; replace hE := ho.ext hE (T (T hs3 hs7) (Nat.le_of_eq hzO9))
    have q9 := fun (j : Nat) (v : Value) (h : BoxAt _ O1 j v) => ho.box (Nat.ne_of_gt (Nat.lt_of_lt_of_le lt4 (T hs7 (Nat.le_of_eq hzO9)))) h
    replace bO1_0 := q9 _ _ bO1_0; replace bO1_1 := q9 _ _ bO1_1; replace bO1_2 := q9 _ _ bO1_2; replace bO1_3 := q9 _ _ bO1_3; clear q9
    have q9 := fun (j : Nat) (v : Value) (h : BoxAt _ O5 j v) => ho.box (Nat.ne_of_gt (Nat.lt_of_lt_of_le lt8 (Nat.le_of_eq hzO9))) h
    replace bO5_0 := q9 _ _ bO5_0; replace bO5_1 := q9 _ _ bO5_1; replace bO5_2 := q9 _ _ bO5_2; replace bO5_3 := q9 _ _ bO5_3; clear q9; replace hc51 := ho.cell (Nat.ne_of_lt (Nat.lt_of_lt_of_le lt12 (T (T hs44 (T hs46 hs48)) hn50))) hc51
    have q9 := fun (j : Nat) (v : Value) (h : BoxAt _ O63 j v) => ho.box (Nat.ne_of_lt (Nat.lt_of_lt_of_le lt12 (T (T hs44 (T hs46 (T hs48 (T hs53 (T hs56 hs62))))) (Nat.le_of_eq hzO63)))) h
    replace bO63_0 := q9 _ _ bO63_0; replace bO63_1 := q9 _ _ bO63_1; replace bO63_2 := q9 _ _ bO63_2; replace bO63_3 := q9 _ _ bO63_3; clear q9; replace hP119r := hP119r.turn ho (Nat.not_le_of_lt (Nat.lt_of_lt_of_le lt12 (T hs44 (T hs46 (T hs48 (T hs53 (T hs56 (T hs62 (T hs65 hs74))))))))); replace hc126 := ho.cell (Nat.ne_of_lt (Nat.lt_of_lt_of_le lt12 (T (T hs44 (T hs46 (T hs48 (T hs53 (T hs56 (T hs62 (T hs65 (T hs74 (T hs115 hs123))))))))) hn125))) hc126; have hs151 : w148.heap.size ≤ X150.heap.size := Nat.le_of_eq ho.size.symm; clear ho hk bO9_0 bO9_1 bO9_2 bO9_3; have bO9_0 := hv0; clear hv0; have bO9_1 := hv1; clear hv1; have bO9_2 := hv2; clear hv2; have bO9_3 := hv3; clear hv3; refine pT (.int .i64 310) ?_; refine pl_nil ?_; refine qw_then ?_
    refine cw_ret ?_
    refine qw_ret [.agg #[.int .i64 0, .int .i64 0, .slice none 0 0, .slice none 0 0], .int .i64 310] rfl ⟨⟨_, by kernel_rfl, res_ld (ld31 (bO9_0.1) (bO9_1.1) (bO9_2.1) (bO9_3.1))⟩, (by kernel_rfl), trivial⟩ ?_
    have hnk : Prod.nextOk id ver ar ps x = false := by unfold Prod.nextOk; rw [hnv, h1, h2, h3, hb132]; rfl
    exact RetB.no hnk ⟨rfl, hE⟩

end Go.Proofs.YtajdohcgjgknmaaDoor

/- The moves through a region that draws its order, one by one. -/
namespace Go.Proofs.YtajdohcgjgknmaaDoor
open Go.RowKit

section
variable {P : Program} {ops : Array Oper} {Q : Exit → Act → World → Prop} {md : Region.Mode} {S : World → Prop}
theorem at_drop {i : Nat} {o : Oper} {r : List Oper} (h : ops.toList.drop i = o :: r) : ops[i]? = some o := by
 rw [← Array.getElem?_toList, ← Nat.add_zero i, ← List.getElem?_drop, h]; rfl
/-- Operation number i may be taken first: it reads only. -/
theorem rg_take (i : Nat) {oi : Oper} {r : List Oper} {v : Value} {fuel : Nat} {listed : Array Bool} {a : Act} {w : World} (hi : ops.toList.drop i = oi :: r)
  (hs : Region.noSelect ops = true) (hf : Region.free md ops listed i = true) (hr : (Region.ready md ops listed).contains i = true)
  (hQ : ∀ c a w, Q (.panic c) (a.put oi.dst v) w → Q (.panic c) a w) (hw : Region.wanted oi (yielded ops a.tmps) = true) (hy : ∀ w, S w → (execOp a.eval oi).run P w = .ok (.value v) w) (hS : S w)
  (h : wpAnyH P md ops Q S fuel (listed.setIfInBounds i true) (a.put oi.dst v) w) : wpAnyH P md ops Q S (fuel + 1) listed a w :=
 wpAnyH_take (at_drop hi) hs hf hr hQ (.inl ⟨hw, hy⟩) hS h
/-- Operation number i is not wanted: its guard says no. -/
theorem rg_skip (i : Nat) {oi : Oper} {r : List Oper} {fuel : Nat} {listed : Array Bool} {a : Act} {w : World} (hi : ops.toList.drop i = oi :: r)
  (hs : Region.noSelect ops = true) (hf : Region.free md ops listed i = true) (hr : (Region.ready md ops listed).contains i = true)
  (hQ : ∀ c a w, Q (.panic c) (a.put oi.dst undef) w → Q (.panic c) a w) (hw : Region.wanted oi (yielded ops a.tmps) = false) (hS : S w)
  (h : wpAnyH P md ops Q S fuel (listed.setIfInBounds i true) (a.put oi.dst undef) w) : wpAnyH P md ops Q S (fuel + 1) listed a w :=
 wpAnyH_take (at_drop hi) hs hf hr hQ (.inr ⟨hw, rfl⟩) hS h
/-- Operation number i, which alone may come up, is carried out. -/
theorem rg_step (i : Nat) {oi : Oper} {r : List Oper} {fuel : Nat} {listed : Array Bool} {a : Act} {w : World} (hi : ops.toList.drop i = oi :: r) (hr : Region.ready md ops listed = [i])
  (hw : Region.wanted oi (yielded ops a.tmps) = true)
  (h : ∀ K' : Act → World → Prop, Shut (∀ a w, S w → (S w → wpAnyH P md ops Q S fuel (listed.setIfInBounds i true) a w) → K' a w) → Oper.wp P oi a w K' Q) : wpAnyH P md ops Q S (fuel + 1) listed a w :=
 wpAnyH_ready hr (by simp) (AllReadyH.cons (at_drop hi) (fun K hK => by rw [if_pos hw]; exact h K hK) AllReadyH.nil)
end

end Go.Proofs.YtajdohcgjgknmaaDoor

/- The distance of two cells, and what is near an area. Plain mathematics. -/
namespace Go.Proofs.YtajdohcgjgknmaaDoor
namespace Globe

end Globe
end Go.Proofs.YtajdohcgjgknmaaDoor

/- Contracts of package globe: Has, Near, Same. -/
namespace Go.Proofs.YtajdohcgjgknmaaDoor
open Go.RowKit

set_option maxHeartbeats 1000000 in
theorem Has_y (b o c : Nat) (l : List Int) (x y : Nat) (w : World) (h : ∀ i, i < 24 → w.cell? ⟨b, o + i, none⟩ = some (.int .i64 (Globe.nth l i))) (hv : Globe.validL l = true) (hx : x < 48) (hy : y < 24) :
  Calls Tryd.prog 14 #[.agg #[.slice (some ⟨b, o, none⟩) 24 c], .agg #[.int .i64 x, .int .i64 y]] w fun e w' => e = .returned (.bool (Globe.hasL l x y)) ∧ Ext w w' := by
 have hR := Globe.rowN_lt hv y
 have hbl := IntsAt.lt h
 have hc : w.cell? ⟨b, o + y, none⟩ = some (.int .i64 (Globe.rowN l y : Nat)) := by rw [← Globe.rowN_cast hv]; exact h y hy
 have H := Lib.hid h; clear h
 have Hv := Lib.hid hv; clear hv
 have hb1 := bit_and1 (Globe.rowN l y) x (by omega)
 rw [Globe.rowN_bit] at hb1
 generalize Globe.rowN l y = R at *
 have hvc : Globe.vcB (x : Int) (y : Int) = true := Globe.vcB_t.2 (by omega)
 have y0 : (0 : Int) ≤ (y : Int) := by omega
 have y1 : (y : Int) < 24 := by omega
 have x0 : (0 : Int) ≤ (x : Int) := by omega
 cases hbit : Globe.hasL l x y
 all_goals
  rw [hbit] at hb1
  simp only [if_true, Bool.false_eq_true, if_false] at hb1
  clear hbit
  go_enter Tryd.func14, Tryd.ntmps14
  go_wp2_with fail
  go_region_held3 (fun w' => Ext w w' ∧ w'.cell? ⟨w.heap.size, 0, none⟩ = some (.slice (some ⟨b, o, none⟩) 24 c) ∧ w'.cell? ⟨w.heap.size + 1, 0, none⟩ = some (.int .i64 x) ∧ w'.cell? ⟨w.heap.size + 1, 1, none⟩ = some (.int .i64 y) ∧ w'.cell? ⟨b, o + y, none⟩ = some (.int .i64 R))
   ((first | ((repeat' (with_reducible apply And.intro)) <;> (first | (with_reducible assumption) | (simp [go_sem]; done) | ((repeat' (first | (with_reducible assumption) | (with_reducible exact Ext.refl _) | (with_reducible refine Ext.alloc ?_ _) | (with_reducible refine Ext.drew ?_) | (with_reducible refine Ext.drewN ?_ _) | (with_reducible refine Ext.setCell ?_ ?_ _) | (with_reducible refine Ext.trans ?_ (by assumption)) | go_size)); done) | (refine Ext.cell ?_ (by with_reducible assumption); (repeat' (first | (with_reducible assumption) | (with_reducible exact Ext.refl _) | (with_reducible refine Ext.alloc ?_ _) | (with_reducible refine Ext.drew ?_) | (with_reducible refine Ext.drewN ?_ _) | (with_reducible refine Ext.setCell ?_ ?_ _) | (with_reducible refine Ext.trans ?_ (by assumption)) | go_size)); done))) | (rcases (show Ext w _ ∧ _ from by with_reducible assumption) with ⟨_, _, _, _, _⟩; (repeat' (with_reducible apply And.intro)) <;> (first | (with_reducible assumption) | ((repeat' (first | (with_reducible assumption) | (with_reducible exact Ext.refl _) | (with_reducible refine Ext.alloc ?_ _) | (with_reducible refine Ext.drew ?_) | (with_reducible refine Ext.drewN ?_ _) | (with_reducible refine Ext.setCell ?_ ?_ _) | (with_reducible refine Ext.trans ?_ (by assumption)) | go_size)); done) | (refine Ext.cell ?_ (by with_reducible assumption); (repeat' (first | (with_reducible assumption) | (with_reducible exact Ext.refl _) | (with_reducible refine Ext.alloc ?_ _) | (with_reducible refine Ext.drew ?_) | (with_reducible refine Ext.drewN ?_ _) | (with_reducible refine Ext.setCell ?_ ?_ _) | (with_reducible refine Ext.trans ?_ (by assumption)) | go_size)); done)))))
   (first | (go_at_call 31; refine (Valid_y _ _ _ _ _ (fun i hi => Ext.cell (And.left (a := Ext w _) (by assumption)) (H.out i hi)) Hv.out).mono ?_; rintro e w1 ⟨rfl, hb⟩) | (go_at_call 42; refine (ValidCell_v _ _ _ (by assumption)).mono ?_; rintro e w1 ⟨rfl, hb⟩))
  go_wp2
  rcases (show Ext w _ ∧ _ from by with_reducible assumption) with ⟨hE, -⟩
  go_ret
  exact ⟨rfl, by (repeat' (first | (with_reducible assumption) | (with_reducible exact Ext.refl _) | (with_reducible refine Ext.alloc ?_ _) | (with_reducible refine Ext.drew ?_) | (with_reducible refine Ext.drewN ?_ _) | (with_reducible refine Ext.setCell ?_ ?_ _) | (with_reducible refine Ext.trans ?_ (by assumption)) | go_size))⟩
set_option maxHeartbeats 1000000 in
theorem Has_n (a : Option Addr) (l : List Int) (n c : Nat) (x y : Int) (w : World) (h : IntsAt w a l) (hn : l.length = n) (hl : n ≤ 140737488355328) (hv : (Globe.validL l && Globe.vcB x y) = false) :
    Calls Tryd.prog 14 #[.agg #[.slice a n c], .agg #[.int .i64 x, .int .i64 y]] w fun e w' => e = .returned (.bool false) ∧ Ext w w' := by
  have H := Lib.hid h; clear h
  have Hn := Lib.hid hn; clear hn
  cases hq : Globe.validL l
  · clear hv
    go_enter Tryd.func14, Tryd.ntmps14
    go_wp2_with fail
    refine wp_region_held_drew (S := fun w' => Ext w w' ∧ w'.cell? ⟨w.heap.size, 0, none⟩ = some (.slice a n c)) (by kernel_rfl) ⟨by (repeat' (first | (with_reducible assumption) | (with_reducible exact Ext.refl _) | (with_reducible refine Ext.alloc ?_ _) | (with_reducible refine Ext.drew ?_) | (with_reducible refine Ext.drewN ?_ _) | (with_reducible refine Ext.setCell ?_ ?_ _) | (with_reducible refine Ext.trans ?_ (by assumption)) | go_size)), by simp [go_sem]⟩ (fun hHeld => ?_)
    (refine rg_take 0 (v := ?_) rfl (by kernel_rfl) (by kernel_rfl) (by kernel_rfl) (fun _ _ _ h => h) (by kernel_rfl) ?_ (by with_reducible assumption) ?_; rotate_left; (focus (intro w hSw; (try dsimp only at hSw); go_simp; (try with_reducible rfl))); (try simp only [Act.put, List.setIfInBounds_toArray, List.set_cons_zero, List.set_cons_succ]))
    (refine rg_step 1 rfl (by kernel_rfl) (by kernel_rfl) (fun K hK => ?_); go_simp; (go_at_call 31; refine (Valid_v _ _ _ _ _ (H.out.ext hHeld.1) Hn.out hl hq).mono ?_; rintro e w1 ⟨rfl, hb⟩); refine hK.out _ _ (⟨hHeld.1.trans hb, hb.cell hHeld.2⟩) (fun hHeld => ?_); clear hK K; (try simp only [Act.put, List.setIfInBounds_toArray, List.set_cons_zero, List.set_cons_succ]))
    (refine rg_take 2 (v := ?_) rfl (by kernel_rfl) (by kernel_rfl) (by kernel_rfl) (fun _ _ _ h => h) (by kernel_rfl) ?_ (by with_reducible assumption) ?_; rotate_left; (focus (intro w hSw; (try dsimp only at hSw); go_simp; (try with_reducible rfl))); (try simp only [Act.put, List.setIfInBounds_toArray, List.set_cons_zero, List.set_cons_succ]))
    (refine rg_skip 3 rfl (by kernel_rfl) (by kernel_rfl) (by kernel_rfl) (fun _ _ _ h => h) (by kernel_rfl) (by with_reducible assumption) ?_; (try simp only [Act.put, List.setIfInBounds_toArray, List.set_cons_zero, List.set_cons_succ]))
    (refine rg_skip 4 rfl (by kernel_rfl) (by kernel_rfl) (by kernel_rfl) (fun _ _ _ h => h) (by kernel_rfl) (by with_reducible assumption) ?_; (try simp only [Act.put, List.setIfInBounds_toArray, List.set_cons_zero, List.set_cons_succ]))
    (refine rg_take 5 (v := ?_) rfl (by kernel_rfl) (by kernel_rfl) (by kernel_rfl) (fun _ _ _ h => h) (by kernel_rfl) ?_ (by with_reducible assumption) ?_; rotate_left; (focus (intro w hSw; (try dsimp only at hSw); go_simp; (try with_reducible rfl))); (try simp only [Act.put, List.setIfInBounds_toArray, List.set_cons_zero, List.set_cons_succ]))
    (refine rg_take 6 (v := ?_) rfl (by kernel_rfl) (by kernel_rfl) (by kernel_rfl) (fun _ _ _ h => h) (by kernel_rfl) ?_ (by with_reducible assumption) ?_; rotate_left; (focus (intro w hSw; (try dsimp only at hSw); go_simp; (try with_reducible rfl))); (try simp only [Act.put, List.setIfInBounds_toArray, List.set_cons_zero, List.set_cons_succ]))
    (refine rg_skip 7 rfl (by kernel_rfl) (by kernel_rfl) (by kernel_rfl) (fun _ _ _ h => h) (by kernel_rfl) (by with_reducible assumption) ?_; (try simp only [Act.put, List.setIfInBounds_toArray, List.set_cons_zero, List.set_cons_succ]))
    (refine rg_skip 8 rfl (by kernel_rfl) (by kernel_rfl) (by kernel_rfl) (fun _ _ _ h => h) (by kernel_rfl) (by with_reducible assumption) ?_; (try simp only [Act.put, List.setIfInBounds_toArray, List.set_cons_zero, List.set_cons_succ]))
    (refine rg_skip 9 rfl (by kernel_rfl) (by kernel_rfl) (by kernel_rfl) (fun _ _ _ h => h) (by kernel_rfl) (by with_reducible assumption) ?_; (try simp only [Act.put, List.setIfInBounds_toArray, List.set_cons_zero, List.set_cons_succ]))
    (refine rg_skip 10 rfl (by kernel_rfl) (by kernel_rfl) (by kernel_rfl) (fun _ _ _ h => h) (by kernel_rfl) (by with_reducible assumption) ?_; (try simp only [Act.put, List.setIfInBounds_toArray, List.set_cons_zero, List.set_cons_succ]))
    (refine rg_skip 11 rfl (by kernel_rfl) (by kernel_rfl) (by kernel_rfl) (fun _ _ _ h => h) (by kernel_rfl) (by with_reducible assumption) ?_; (try simp only [Act.put, List.setIfInBounds_toArray, List.set_cons_zero, List.set_cons_succ]))
    (refine rg_skip 12 rfl (by kernel_rfl) (by kernel_rfl) (by kernel_rfl) (fun _ _ _ h => h) (by kernel_rfl) (by with_reducible assumption) ?_; (try simp only [Act.put, List.setIfInBounds_toArray, List.set_cons_zero, List.set_cons_succ]))
    (refine rg_skip 13 rfl (by kernel_rfl) (by kernel_rfl) (by kernel_rfl) (fun _ _ _ h => h) (by kernel_rfl) (by with_reducible assumption) ?_; (try simp only [Act.put, List.setIfInBounds_toArray, List.set_cons_zero, List.set_cons_succ]))
    (refine rg_skip 14 rfl (by kernel_rfl) (by kernel_rfl) (by kernel_rfl) (fun _ _ _ h => h) (by kernel_rfl) (by with_reducible assumption) ?_; (try simp only [Act.put, List.setIfInBounds_toArray, List.set_cons_zero, List.set_cons_succ]))
    (refine rg_skip 15 rfl (by kernel_rfl) (by kernel_rfl) (by kernel_rfl) (fun _ _ _ h => h) (by kernel_rfl) (by with_reducible assumption) ?_; (try simp only [Act.put, List.setIfInBounds_toArray, List.set_cons_zero, List.set_cons_succ]))
    (refine rg_skip 16 rfl (by kernel_rfl) (by kernel_rfl) (by kernel_rfl) (fun _ _ _ h => h) (by kernel_rfl) (by with_reducible assumption) ?_; (try simp only [Act.put, List.setIfInBounds_toArray, List.set_cons_zero, List.set_cons_succ]))
    (refine rg_skip 17 rfl (by kernel_rfl) (by kernel_rfl) (by kernel_rfl) (fun _ _ _ h => h) (by kernel_rfl) (by with_reducible assumption) ?_; (try simp only [Act.put, List.setIfInBounds_toArray, List.set_cons_zero, List.set_cons_succ]))
    (refine rg_take 18 (v := ?_) rfl (by kernel_rfl) (by kernel_rfl) (by kernel_rfl) (fun _ _ _ h => h) (by kernel_rfl) ?_ (by with_reducible assumption) ?_; rotate_left; (focus (intro w hSw; (try dsimp only at hSw); go_simp; (try with_reducible rfl))); (try simp only [Act.put, List.setIfInBounds_toArray, List.set_cons_zero, List.set_cons_succ]))
    (refine rg_take 19 (v := ?_) rfl (by kernel_rfl) (by kernel_rfl) (by kernel_rfl) (fun _ _ _ h => h) (by kernel_rfl) ?_ (by with_reducible assumption) ?_; rotate_left; (focus (intro w hSw; (try dsimp only at hSw); go_simp; (try with_reducible rfl))); (try simp only [Act.put, List.setIfInBounds_toArray, List.set_cons_zero, List.set_cons_succ]))
    refine wpAnyH_done (by kernel_rfl) ?_ _
    go_wp2
    go_ret
    exact ⟨rfl, hHeld.1⟩
  · rw [hq] at hv
    replace hv : Globe.vcB x y = false := by simpa using hv
    obtain ⟨b, o, rfl, hr⟩ := H.out.rows (Globe.len_of_valid hq)
    go_enter Tryd.func14, Tryd.ntmps14
    go_wp2_with fail
    refine wp_region_held_drew (S := fun w' => Ext w w' ∧ w'.cell? ⟨w.heap.size, 0, none⟩ = some (.slice (some ⟨b, o, none⟩) n c) ∧ w'.cell? ⟨w.heap.size + 1, 0, none⟩ = some (.int .i64 x) ∧ w'.cell? ⟨w.heap.size + 1, 1, none⟩ = some (.int .i64 y)) (by kernel_rfl) ⟨by (repeat' (first | (with_reducible assumption) | (with_reducible exact Ext.refl _) | (with_reducible refine Ext.alloc ?_ _) | (with_reducible refine Ext.drew ?_) | (with_reducible refine Ext.drewN ?_ _) | (with_reducible refine Ext.setCell ?_ ?_ _) | (with_reducible refine Ext.trans ?_ (by assumption)) | go_size)), by simp [go_sem], by simp [go_sem], by simp [go_sem]⟩ (fun hHeld => ?_)
    (refine rg_take 0 (v := ?_) rfl (by kernel_rfl) (by kernel_rfl) (by kernel_rfl) (fun _ _ _ h => h) (by kernel_rfl) ?_ (by with_reducible assumption) ?_; rotate_left; (focus (intro w hSw; (try dsimp only at hSw); go_simp; (try with_reducible rfl))); (try simp only [Act.put, List.setIfInBounds_toArray, List.set_cons_zero, List.set_cons_succ]))
    (refine rg_step 1 rfl (by kernel_rfl) (by kernel_rfl) (fun K hK => ?_); go_simp; (go_at_call 31; refine (Valid_v _ _ _ _ _ (H.out.ext hHeld.1) Hn.out hl hq).mono ?_; rintro e w1 ⟨rfl, hb⟩); refine hK.out _ _ (⟨hHeld.1.trans hb, hb.cell hHeld.2.1, hb.cell hHeld.2.2.1, hb.cell hHeld.2.2.2⟩) (fun hHeld => ?_); clear hK K; (try simp only [Act.put, List.setIfInBounds_toArray, List.set_cons_zero, List.set_cons_succ]))
    (refine rg_take 2 (v := ?_) rfl (by kernel_rfl) (by kernel_rfl) (by kernel_rfl) (fun _ _ _ h => h) (by kernel_rfl) ?_ (by with_reducible assumption) ?_; rotate_left; (focus (intro w hSw; (try dsimp only at hSw); go_simp; (try with_reducible rfl))); (try simp only [Act.put, List.setIfInBounds_toArray, List.set_cons_zero, List.set_cons_succ]))
    (refine rg_take 3 (v := ?_) rfl (by kernel_rfl) (by kernel_rfl) (by kernel_rfl) (fun _ _ _ h => h) (by kernel_rfl) ?_ (by with_reducible assumption) ?_; rotate_left; (focus (intro w hSw; (try dsimp only at hSw); go_simp; (try with_reducible rfl))); (try simp only [Act.put, List.setIfInBounds_toArray, List.set_cons_zero, List.set_cons_succ]))
    (refine rg_step 4 rfl (by kernel_rfl) (by kernel_rfl) (fun K hK => ?_); go_simp; (go_at_call 42; refine (ValidCell_v _ _ _ hv).mono ?_; rintro e w1 ⟨rfl, hb⟩); refine hK.out _ _ (⟨hHeld.1.trans hb, hb.cell hHeld.2.1, hb.cell hHeld.2.2.1, hb.cell hHeld.2.2.2⟩) (fun hHeld => ?_); clear hK K; (try simp only [Act.put, List.setIfInBounds_toArray, List.set_cons_zero, List.set_cons_succ]))
    (refine rg_take 5 (v := ?_) rfl (by kernel_rfl) (by kernel_rfl) (by kernel_rfl) (fun _ _ _ h => h) (by kernel_rfl) ?_ (by with_reducible assumption) ?_; rotate_left; (focus (intro w hSw; (try dsimp only at hSw); go_simp; (try with_reducible rfl))); (try simp only [Act.put, List.setIfInBounds_toArray, List.set_cons_zero, List.set_cons_succ]))
    (refine rg_take 6 (v := ?_) rfl (by kernel_rfl) (by kernel_rfl) (by kernel_rfl) (fun _ _ _ h => h) (by kernel_rfl) ?_ (by with_reducible assumption) ?_; rotate_left; (focus (intro w hSw; (try dsimp only at hSw); go_simp; (try with_reducible rfl))); (try simp only [Act.put, List.setIfInBounds_toArray, List.set_cons_zero, List.set_cons_succ]))
    (refine rg_skip 7 rfl (by kernel_rfl) (by kernel_rfl) (by kernel_rfl) (fun _ _ _ h => h) (by kernel_rfl) (by with_reducible assumption) ?_; (try simp only [Act.put, List.setIfInBounds_toArray, List.set_cons_zero, List.set_cons_succ]))
    (refine rg_skip 8 rfl (by kernel_rfl) (by kernel_rfl) (by kernel_rfl) (fun _ _ _ h => h) (by kernel_rfl) (by with_reducible assumption) ?_; (try simp only [Act.put, List.setIfInBounds_toArray, List.set_cons_zero, List.set_cons_succ]))
    (refine rg_skip 9 rfl (by kernel_rfl) (by kernel_rfl) (by kernel_rfl) (fun _ _ _ h => h) (by kernel_rfl) (by with_reducible assumption) ?_; (try simp only [Act.put, List.setIfInBounds_toArray, List.set_cons_zero, List.set_cons_succ]))
    (refine rg_skip 10 rfl (by kernel_rfl) (by kernel_rfl) (by kernel_rfl) (fun _ _ _ h => h) (by kernel_rfl) (by with_reducible assumption) ?_; (try simp only [Act.put, List.setIfInBounds_toArray, List.set_cons_zero, List.set_cons_succ]))
    (refine rg_skip 11 rfl (by kernel_rfl) (by kernel_rfl) (by kernel_rfl) (fun _ _ _ h => h) (by kernel_rfl) (by with_reducible assumption) ?_; (try simp only [Act.put, List.setIfInBounds_toArray, List.set_cons_zero, List.set_cons_succ]))
    (refine rg_skip 12 rfl (by kernel_rfl) (by kernel_rfl) (by kernel_rfl) (fun _ _ _ h => h) (by kernel_rfl) (by with_reducible assumption) ?_; (try simp only [Act.put, List.setIfInBounds_toArray, List.set_cons_zero, List.set_cons_succ]))
    (refine rg_skip 13 rfl (by kernel_rfl) (by kernel_rfl) (by kernel_rfl) (fun _ _ _ h => h) (by kernel_rfl) (by with_reducible assumption) ?_; (try simp only [Act.put, List.setIfInBounds_toArray, List.set_cons_zero, List.set_cons_succ]))
    (refine rg_skip 14 rfl (by kernel_rfl) (by kernel_rfl) (by kernel_rfl) (fun _ _ _ h => h) (by kernel_rfl) (by with_reducible assumption) ?_; (try simp only [Act.put, List.setIfInBounds_toArray, List.set_cons_zero, List.set_cons_succ]))
    (refine rg_skip 15 rfl (by kernel_rfl) (by kernel_rfl) (by kernel_rfl) (fun _ _ _ h => h) (by kernel_rfl) (by with_reducible assumption) ?_; (try simp only [Act.put, List.setIfInBounds_toArray, List.set_cons_zero, List.set_cons_succ]))
    (refine rg_skip 16 rfl (by kernel_rfl) (by kernel_rfl) (by kernel_rfl) (fun _ _ _ h => h) (by kernel_rfl) (by with_reducible assumption) ?_; (try simp only [Act.put, List.setIfInBounds_toArray, List.set_cons_zero, List.set_cons_succ]))
    (refine rg_skip 17 rfl (by kernel_rfl) (by kernel_rfl) (by kernel_rfl) (fun _ _ _ h => h) (by kernel_rfl) (by with_reducible assumption) ?_; (try simp only [Act.put, List.setIfInBounds_toArray, List.set_cons_zero, List.set_cons_succ]))
    (refine rg_take 18 (v := ?_) rfl (by kernel_rfl) (by kernel_rfl) (by kernel_rfl) (fun _ _ _ h => h) (by kernel_rfl) ?_ (by with_reducible assumption) ?_; rotate_left; (focus (intro w hSw; (try dsimp only at hSw); go_simp; (try with_reducible rfl))); (try simp only [Act.put, List.setIfInBounds_toArray, List.set_cons_zero, List.set_cons_succ]))
    (refine rg_take 19 (v := ?_) rfl (by kernel_rfl) (by kernel_rfl) (by kernel_rfl) (fun _ _ _ h => h) (by kernel_rfl) ?_ (by with_reducible assumption) ?_; rotate_left; (focus (intro w hSw; (try dsimp only at hSw); go_simp; (try with_reducible rfl))); (try simp only [Act.put, List.setIfInBounds_toArray, List.set_cons_zero, List.set_cons_succ]))
    refine wpAnyH_done (by kernel_rfl) ?_ _
    go_wp2
    go_ret
    exact ⟨rfl, hHeld.1⟩
/-- Whether any list of rows is a valid area with the cell. -/
def hasB (l : List Int) (x y : Int) : Bool := Globe.validL l && Globe.vcB x y && Globe.hasL l x.toNat y.toNat
theorem hasB_nat {l : List Int} (h : Globe.validL l = true) {x y : Nat} (hx : x < 48) (hy : y < 24) : hasB l x y = Globe.hasL l x y := by
 unfold hasB; rw [h, Globe.vcB_t.2 (by omega)]; simp
theorem Has_c (a : Option Addr) (l : List Int) (n c : Nat) (x y : Int) (w : World) (h : IntsAt w a l) (hn : l.length = n) (hl : n ≤ 140737488355328) :
    Calls Tryd.prog 14 #[.agg #[.slice a n c], .agg #[.int .i64 x, .int .i64 y]] w fun e w' => e = .returned (.bool (hasB l x y)) ∧ Ext w w' := by
  cases hq : Globe.validL l && Globe.vcB x y
  · have := Has_n a l n c x y w h hn hl hq
    unfold hasB; rw [hq]; exact this
  · obtain ⟨hv, hc⟩ := Bool.and_eq_true_iff.1 hq
    obtain ⟨h0, h1, h2, h3⟩ := Globe.vcB_t.1 hc
    have hn2 := Globe.len_of_valid hv
    obtain ⟨b, o, rfl, hr⟩ := h.rows hn2
    obtain rfl : n = 24 := by omega
    have := Has_y b o c l x.toNat y.toNat w hr hv (by omega) (by omega)
    rw [Int.toNat_of_nonneg h0, Int.toNat_of_nonneg h2] at this
    unfold hasB; rw [hq]; exact this

end Go.Proofs.YtajdohcgjgknmaaDoor
