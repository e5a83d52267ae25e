/- Part 6 of what the proof of ProductVersions stands on. -/
import Derived.Test.YtajdohcgjgknmaaDoorV5ProductVersions
/- The reference of chapter 31: Same. -/
namespace Go.Proofs.YtajdohcgjgknmaaDoor
open Go.RowKit

theorem rSame_q {w1 w2 : World} {a1 : Option Addr} {l1 : List Int} {n1 : Nat} (c1 : Nat) {v1 : Bool} {a2 : Option Addr} {l2 : List Int} {n2 : Nat} (c2 : Nat) {v2 r : Bool} (w : World) (h1 : AA w1 a1 l1 n1 v1) (e1 : Ext w1 w) (h2 : AA w2 a2 l2 n2 v2) (e2 : Ext w2 w) (hr : decide (l1 = l2) = r) : Calls Tryd.prog 25 #[.agg #[.slice a1 n1 c1], .agg #[.slice a2 n2 c2]] w fun e w' => e = .returned (.bool r) ∧ Ext w w' := hr ▸ rSame_c c1 c2 w h1 e1 h2 e2
set_option maxRecDepth 1000000 in
set_option maxHeartbeats 4000000 in
theorem rpSame_c {w1 w2 w3 w4 : World} {id ver id2 ver2 : Int} {ar ar2 : List Int} {ps qs : List Prod.Pc} {a1 a b1 b : Option Addr} {n1 n m1 m : Nat} (c1 c d1 d : Nat) (w : World) (hA : AA w1 a1 ar n1 (Globe.validL ar)) (e1 : Ext w1 w) (hP : PcsAt w2 a n ps) (e2 : Ext w2 w) (hB : AA w3 b1 ar2 m1 (Globe.validL ar2)) (e3 : Ext w3 w) (hQ : PcsAt w4 b m qs) (e4 : Ext w4 w) : Calls Tryd.prog 20 #[.agg #[.int .i64 id, .int .i64 ver, .slice a1 n1 c1, .slice a n c], .agg #[.int .i64 id2, .int .i64 ver2, .slice b1 m1 d1, .slice b m d]] w fun e w' => e = .returned (.bool (Prod.sameP id ver ar ps id2 ver2 ar2 qs)) ∧ Ext w w' := by
 replace hA := hA.ext e1; replace hP := hP.ext e2; replace hB := hB.ext e3; replace hQ := hQ.ext e4; clear e1 e2 e3 e4
 have hnb := hP.max; have hln := hP.len; have hmb := hQ.max; have hlm := hQ.len
 refine calls_cw 81 [(1, .agg #[.int .i64 id2, .int .i64 ver2, .slice b1 m1 d1, .slice b m d]), (0, .agg #[.int .i64 id, .int .i64 ver, .slice a1 n1 c1, .slice a n c])] Tryd.func20 rfl Tryd.ntmps20 (by kernel_rfl) (by kernel_rfl) (fun L => ?_)
 have hE : Ext w w := Ext.refl w
 refine cw_seq ?_; refine cw_plain ?_
 refine pS (sn_new (us := #[.int .i64 id, .int .i64 ver, .slice a1 n1 c1, .slice a n c]) (t := 31) (by kernel_rfl) ?_)
 intro O1 X2 hzO1 hyO1 hb hbx; have ⟨bO1_0, bO1_1, bO1_2, bO1_3⟩ := bx4 hbx; clear hbx
 replace hE := hE.trans hb; have hs3 := hb.size; clear hb; have lt4 := bO1_0.lt
 refine pS (sn_new (us := #[.int .i64 id2, .int .i64 ver2, .slice b1 m1 d1, .slice b m d]) (t := 31) (by kernel_rfl) ?_)
 intro O5 X6 hzO5 hyO5 hb hbx; have ⟨bO5_0, bO5_1, bO5_2, bO5_3⟩ := bx4 hbx; clear hbx
 replace hE := hE.trans hb; replace bO1_0 := BoxAt.ext hb bO1_0; replace bO1_1 := BoxAt.ext hb bO1_1; replace bO1_2 := BoxAt.ext hb bO1_2; replace bO1_3 := BoxAt.ext hb bO1_3; have hs7 := hb.size; clear hb; have lt8 := bO5_0.lt; refine pT (.bool false) ?_; refine pl_nil ?_; refine qw_then ?_; refine cw_seq ?_; refine cw_seq ?_; refine cw_plain ?_; refine pT (.pointer (some ⟨O1, 0, none⟩)) ?_
 refine pU (.int .i64 id) (ex_load rfl (by kernel_rfl) (ld3 (bO1_0.1))) ?_
 refine pT (.pointer (some ⟨O5, 0, none⟩)) ?_
 refine pU (.int .i64 id2) (ex_load rfl (by kernel_rfl) (ld3 (bO5_0.1))) ?_
 by_cases hc9 : (id : Int) = (id2 : Int)
 ·
  refine pU (.bool false) (ev_nne (show _ = Result.ok (Next.value (Value.bool ((id : Int) != (id2 : Int)))) _ from by kernel_rfl) (hc9)) ?_
  refine pT (.bool false) ?_; refine pT (.pointer (some ⟨O1, 1, none⟩)) ?_
  refine pU (.int .i64 ver) (ex_load rfl (by kernel_rfl) (ld3 (bO1_1.1))) ?_
  refine pT (.pointer (some ⟨O5, 1, none⟩)) ?_
  refine pU (.int .i64 ver2) (ex_load rfl (by kernel_rfl) (ld3 (bO5_1.1))) ?_
  by_cases hc10 : (ver : Int) = (ver2 : Int)
  ·
   refine pU (.bool false) (ev_nne (show _ = Result.ok (Next.value (Value.bool ((ver : Int) != (ver2 : Int)))) _ from by kernel_rfl) (hc10)) ?_
   refine pT (.bool false) ?_; refine pT (.bool false) ?_; refine pT (.pointer (some ⟨O1, 2, none⟩)) ?_
   refine pU (.agg #[.slice a1 n1 c1]) (ex_load rfl (by kernel_rfl) (ld26 (bO1_2.1))) ?_
   refine pT (.pointer (some ⟨O5, 2, none⟩)) ?_
   refine pU (.agg #[.slice b1 m1 d1]) (ex_load rfl (by kernel_rfl) (ld26 (bO5_2.1))) ?_
   rcases Bool.eq_false_or_eq_true (decide (ar = ar2)) with hb11 | hb11
   ·
    refine pS (sn_call (f := 25) (args := #[.agg #[.slice a1 n1 c1], .agg #[.slice b1 m1 d1]]) (by kernel_rfl) ((rSame_q (r := true) _ _ _ (hA) hE (hB) hE hb11).mono ?_))
    rintro e w12 ⟨rfl, hb⟩
    replace hE := hE.trans hb; replace bO1_0 := BoxAt.ext hb bO1_0; replace bO1_1 := BoxAt.ext hb bO1_1; replace bO1_2 := BoxAt.ext hb bO1_2; replace bO1_3 := BoxAt.ext hb bO1_3; replace bO5_0 := BoxAt.ext hb bO5_0; replace bO5_1 := BoxAt.ext hb bO5_1; replace bO5_2 := BoxAt.ext hb bO5_2; replace bO5_3 := BoxAt.ext hb bO5_3; have hs13 := hb.size; clear hb
    refine ⟨_, rfl, ?_⟩
    refine pT (.bool false) ?_; refine pT (.bool false) ?_; refine pT (.bool false) ?_; refine pT (.pointer (some ⟨O1, 3, none⟩)) ?_
    refine pU (.slice a n c) (ex_load rfl (by kernel_rfl) (ld28 (bO1_3.1))) ?_
    refine pT (.int .i64 (((n : Nat) : Int) : Int)) ?_; refine pT (.pointer (some ⟨O5, 3, none⟩)) ?_
    refine pU (.slice b m d) (ex_load rfl (by kernel_rfl) (ld28 (bO5_3.1))) ?_
    refine pT (.int .i64 (((m : Nat) : Int) : Int)) ?_
    by_cases hc14 : (((n : Nat) : Int) : Int) = (((m : Nat) : Int) : Int)
    ·
     refine pU (.bool false) (ev_nne (show _ = Result.ok (Next.value (Value.bool ((((n : Nat) : Int) : Int) != (((m : Nat) : Int) : Int)))) _ from by kernel_rfl) (hc14)) ?_
     refine pT (.bool false) ?_; refine pl_nil ?_; refine qw_then ?_; refine cC3 2 3 36 (fun L => ?_)
     refine cw_f (by kernel_rfl) ?_
     refine cw_skip ?_
     refine qw_then ?_; refine cw_seq ?_; refine cw_seq ?_
     obtain rfl : n = m := by omega
     refine cw_plain ?_; refine pT (.int .i64 0) ?_; refine pl_nil ?_; refine qw_then ?_
     refine cw_block ?_
     refine cw_loop [2, 3, 5] (fun ws' wr m => ∃ i : Nat, ws' = [(2, .pointer (some ⟨O1, 0, none⟩)), (3, .pointer (some ⟨O5, 0, none⟩)), (5, .int .i64 (((i : Nat) : Int) : Int))] ∧ m = n - i ∧ w12.heap.size ≤ wr.heap.size ∧ Ext w wr ∧ BoxAt wr O1 0 (.int .i64 id) ∧ BoxAt wr O1 1 (.int .i64 ver) ∧ BoxAt wr O1 2 (.slice a1 n1 c1) ∧ BoxAt wr O1 3 (.slice a n c) ∧ BoxAt wr O5 0 (.int .i64 id2) ∧ BoxAt wr O5 1 (.int .i64 ver2) ∧ BoxAt wr O5 2 (.slice b1 m1 d1) ∧ BoxAt wr O5 3 (.slice b n d) ∧ i ≤ n ∧ Prod.sameL ps qs = Prod.sameL (ps.drop i) (qs.drop i)) (ws0 := [(2, .pointer (some ⟨O1, 0, none⟩)), (3, .pointer (some ⟨O5, 0, none⟩)), (5, .int .i64 0)]) (by kernel_rfl) _ ⟨0, rfl, rfl, Nat.le_refl _, hE, bO1_0, bO1_1, bO1_2, bO1_3, bO5_0, bO5_1, bO5_2, bO5_3, by omega, rfl⟩ ?_
     clear bO1_0 bO1_1 bO1_2 bO1_3 bO5_0 bO5_1 bO5_2 bO5_3 hE
     rintro m17 L ws w16 ⟨i, rfl, rfl, hs15, hE, bO1_0, bO1_1, bO1_2, bO1_3, bO5_0, bO5_1, bO5_2, bO5_3, hi, Hv⟩
     by_cases hlt : i < n
     ·
      obtain ⟨b18, o19, p, ar20, k21, c22, rfl, hx23, hp24, hp25, hp26, hp27, hA28⟩ := hP.at hlt
      obtain ⟨b29, o30, q, ar31, k32, c33, rfl, hx34, hp35, hp36, hp37, hp38, hA39⟩ := hQ.at hlt
      have hst := Prod.sameL_step hx23 hx34
      refine cw_seq ?_; refine cw_seq ?_; refine cw_plain ?_; refine pT (.int .i64 (((i : Nat) : Int) : Int)) ?_; refine pT (.pointer (some ⟨O1, 3, none⟩)) ?_
      refine pU (.slice (some ⟨b18, o19, none⟩) n c) (ex_load rfl (by kernel_rfl) (ld28 (bO1_3.1))) ?_
      refine pT (.int .i64 (((n : Nat) : Int) : Int)) ?_
      refine pU (.bool true) (ev_dec (show _ = Result.ok (Next.value (Value.bool (decide ((((i : Nat) : Int) : Int) < (((n : Nat) : Int) : Int))))) _ from by kernel_rfl) (by omega)) ?_
      refine pl_nil ?_; refine qw_then ?_
      refine cw_t (by kernel_rfl) ?_
      refine cw_skip ?_
      refine qw_then ?_; refine cw_seq ?_
      refine cw_block ?_
      refine cw_seq ?_; refine cw_plain ?_; refine pT (.pointer (some ⟨O1, 3, none⟩)) ?_
      refine pU (.slice (some ⟨b18, o19, none⟩) n c) (ex_load rfl (by kernel_rfl) (ld28 (bO1_3.1))) ?_
      refine pT (.int .i64 (((i : Nat) : Int) : Int)) ?_
      refine pU (.pointer (some ⟨b18, o19 + i * 4, none⟩)) (ex_index (p := .slice (some ⟨b18, o19, none⟩) n c) (i := .int .i64 ((i : Nat) : Int)) rfl (by kernel_rfl) (by kernel_rfl) (ix28 (k := i) (by omega))) ?_
      refine pU (.agg #[.int .i64 p.im, .int .i64 p.t, .bool p.cl, .slice ar20 k21 c22]) (ex_load rfl (by kernel_rfl) (ld41 ((hE.cell hp24)) ((hE.cell hp25)) ((hE.cell hp26)) ((hE.cell hp27)))) ?_
      refine pS (sn_new (us := #[.int .i64 0, .int .i64 0, .bool false, .slice none 0 0]) (t := 41) (by kernel_rfl) ?_)
      intro O40 X41 hzO40 hyO40 hb hbx; have ⟨bO40_0, bO40_1, bO40_2, bO40_3⟩ := bx4 hbx; clear hbx
      replace hE := hE.trans hb; replace bO1_0 := BoxAt.ext hb bO1_0; replace bO1_1 := BoxAt.ext hb bO1_1; replace bO1_2 := BoxAt.ext hb bO1_2; replace bO1_3 := BoxAt.ext hb bO1_3; replace bO5_0 := BoxAt.ext hb bO5_0; replace bO5_1 := BoxAt.ext hb bO5_1; replace bO5_2 := BoxAt.ext hb bO5_2; replace bO5_3 := BoxAt.ext hb bO5_3; have hs42 := hb.size; clear hb; have lt43 := bO40_0.lt
      refine pP (sn_setK4 (O := O40) (j := 0) (v0 := .int .i64 p.im) (v1 := .int .i64 p.t) (v2 := .bool p.cl) (v3 := .slice ar20 k21 c22) (ex_store (p := .pointer (some ⟨O40, 0, none⟩)) (v := .agg #[.int .i64 p.im, .int .i64 p.t, .bool p.cl, .slice ar20 k21 c22]) rfl (by kernel_rfl) (by kernel_rfl) (st41 bO40_0.1 bO40_0.2 bO40_1.1 bO40_1.2 bO40_2.1 bO40_2.2 bO40_3.1 bO40_3.2)) bO40_0 bO40_1 bO40_2 bO40_3 ?_)
      intro X44 ho hv0 hv1 hv2 hv3 hk; replace hE := ho.ext hE (T (T hs3 (T hs7 (T hs13 hs15))) (Nat.le_of_eq hzO40))
      have q9 := fun (j : Nat) (v : Value) (h : BoxAt _ O1 j v) => ho.box (Nat.ne_of_gt (Nat.lt_of_lt_of_le lt4 (T (T hs7 (T hs13 hs15)) (Nat.le_of_eq hzO40)))) h
      replace bO1_0 := q9 _ _ bO1_0; replace bO1_1 := q9 _ _ bO1_1; replace bO1_2 := q9 _ _ bO1_2; replace bO1_3 := q9 _ _ bO1_3; clear q9
      have q9 := fun (j : Nat) (v : Value) (h : BoxAt _ O5 j v) => ho.box (Nat.ne_of_gt (Nat.lt_of_lt_of_le lt8 (T (T hs13 hs15) (Nat.le_of_eq hzO40)))) h
      replace bO5_0 := q9 _ _ bO5_0; replace bO5_1 := q9 _ _ bO5_1; replace bO5_2 := q9 _ _ bO5_2; replace bO5_3 := q9 _ _ bO5_3; clear q9; have hs45 : X41.heap.size ≤ X44.heap.size := Nat.le_of_eq ho.size.symm; clear ho hk bO40_0 bO40_1 bO40_2 bO40_3; have bO40_0 := hv0; clear hv0; have bO40_1 := hv1; clear hv1; have bO40_2 := hv2; clear hv2; have bO40_3 := hv3; clear hv3; refine pl_nil ?_; refine qw_then ?_; refine cw_seq ?_; refine cw_plain ?_; refine pT (.pointer (some ⟨O5, 3, none⟩)) ?_
      refine pU (.slice (some ⟨b29, o30, none⟩) n d) (ex_load rfl (by kernel_rfl) (ld28 (bO5_3.1))) ?_
      refine pT (.int .i64 (((i : Nat) : Int) : Int)) ?_
      refine pU (.pointer (some ⟨b29, o30 + i * 4, none⟩)) (ex_index (p := .slice (some ⟨b29, o30, none⟩) n d) (i := .int .i64 ((i : Nat) : Int)) rfl (by kernel_rfl) (by kernel_rfl) (ix28 (k := i) (by omega))) ?_
      refine pU (.agg #[.int .i64 q.im, .int .i64 q.t, .bool q.cl, .slice ar31 k32 c33]) (ex_load rfl (by kernel_rfl) (ld41 ((hE.cell hp35)) ((hE.cell hp36)) ((hE.cell hp37)) ((hE.cell hp38)))) ?_
      refine pS (sn_new (us := #[.int .i64 0, .int .i64 0, .bool false, .slice none 0 0]) (t := 41) (by kernel_rfl) ?_)
      intro O46 X47 hzO46 hyO46 hb hbx; have ⟨bO46_0, bO46_1, bO46_2, bO46_3⟩ := bx4 hbx; clear hbx
      replace hE := hE.trans hb; replace bO1_0 := BoxAt.ext hb bO1_0; replace bO1_1 := BoxAt.ext hb bO1_1; replace bO1_2 := BoxAt.ext hb bO1_2; replace bO1_3 := BoxAt.ext hb bO1_3; replace bO5_0 := BoxAt.ext hb bO5_0; replace bO5_1 := BoxAt.ext hb bO5_1; replace bO5_2 := BoxAt.ext hb bO5_2; replace bO5_3 := BoxAt.ext hb bO5_3; replace bO40_0 := BoxAt.ext hb bO40_0; replace bO40_1 := BoxAt.ext hb bO40_1; replace bO40_2 := BoxAt.ext hb bO40_2; replace bO40_3 := BoxAt.ext hb bO40_3; have hs48 := hb.size; clear hb; have lt49 := bO46_0.lt
      refine pP (sn_setK4 (O := O46) (j := 0) (v0 := .int .i64 q.im) (v1 := .int .i64 q.t) (v2 := .bool q.cl) (v3 := .slice ar31 k32 c33) (ex_store (p := .pointer (some ⟨O46, 0, none⟩)) (v := .agg #[.int .i64 q.im, .int .i64 q.t, .bool q.cl, .slice ar31 k32 c33]) rfl (by kernel_rfl) (by kernel_rfl) (st41 bO46_0.1 bO46_0.2 bO46_1.1 bO46_1.2 bO46_2.1 bO46_2.2 bO46_3.1 bO46_3.2)) bO46_0 bO46_1 bO46_2 bO46_3 ?_)
      intro X50 ho hv0 hv1 hv2 hv3 hk; replace hE := ho.ext hE (T (T hs3 (T hs7 (T hs13 (T hs15 (T hs42 hs45))))) (Nat.le_of_eq hzO46))
      have q9 := fun (j : Nat) (v : Value) (h : BoxAt _ O1 j v) => ho.box (Nat.ne_of_gt (Nat.lt_of_lt_of_le lt4 (T (T hs7 (T hs13 (T hs15 (T hs42 hs45)))) (Nat.le_of_eq hzO46)))) h
      replace bO1_0 := q9 _ _ bO1_0; replace bO1_1 := q9 _ _ bO1_1; replace bO1_2 := q9 _ _ bO1_2; replace bO1_3 := q9 _ _ bO1_3; clear q9
      have q9 := fun (j : Nat) (v : Value) (h : BoxAt _ O5 j v) => ho.box (Nat.ne_of_gt (Nat.lt_of_lt_of_le lt8 (T (T hs13 (T hs15 (T hs42 hs45))) (Nat.le_of_eq hzO46)))) h
      replace bO5_0 := q9 _ _ bO5_0; replace bO5_1 := q9 _ _ bO5_1; replace bO5_2 := q9 _ _ bO5_2; replace bO5_3 := q9 _ _ bO5_3; clear q9
      have q9 := fun (j : Nat) (v : Value) (h : BoxAt _ O40 j v) => ho.box (Nat.ne_of_gt (Nat.lt_of_lt_of_le lt43 (T hs45 (Nat.le_of_eq hzO46)))) h
      replace bO40_0 := q9 _ _ bO40_0; replace bO40_1 := q9 _ _ bO40_1; replace bO40_2 := q9 _ _ bO40_2; replace bO40_3 := q9 _ _ bO40_3; clear q9; have hs51 : X47.heap.size ≤ X50.heap.size := Nat.le_of_eq ho.size.symm; clear ho hk bO46_0 bO46_1 bO46_2 bO46_3; have bO46_0 := hv0; clear hv0; have bO46_1 := hv1; clear hv1; have bO46_2 := hv2; clear hv2; have bO46_3 := hv3; clear hv3; refine pl_nil ?_; refine qw_then ?_; refine cC5 2 3 5 6 7 (fun L => ?_); refine cw_seq ?_
      rcases Bool.eq_false_or_eq_true (p.cl != q.cl) with hcl | hcl
      ·
       refine cw_plain ?_; refine pT (.pointer (some ⟨O40, 0, none⟩)) ?_
       refine pU (.int .i64 p.im) (ex_load rfl (by kernel_rfl) (ld3 (bO40_0.1))) ?_
       refine pT (.pointer (some ⟨O46, 0, none⟩)) ?_
       refine pU (.int .i64 q.im) (ex_load rfl (by kernel_rfl) (ld3 (bO46_0.1))) ?_
       by_cases hc52 : (p.im : Int) = (q.im : Int)
       ·
        refine pU (.bool false) (ev_nne (show _ = Result.ok (Next.value (Value.bool ((p.im : Int) != (q.im : Int)))) _ from by kernel_rfl) (hc52)) ?_
        refine pT (.bool false) ?_; refine pT (.pointer (some ⟨O40, 1, none⟩)) ?_
        refine pU (.int .i64 p.t) (ex_load rfl (by kernel_rfl) (ld3 (bO40_1.1))) ?_
        refine pT (.pointer (some ⟨O46, 1, none⟩)) ?_
        refine pU (.int .i64 q.t) (ex_load rfl (by kernel_rfl) (ld3 (bO46_1.1))) ?_
        by_cases hc53 : (p.t : Int) = (q.t : Int)
        ·
         refine pU (.bool false) (ev_nne (show _ = Result.ok (Next.value (Value.bool ((p.t : Int) != (q.t : Int)))) _ from by kernel_rfl) (hc53)) ?_
         refine pT (.bool false) ?_; refine pT (.bool false) ?_; refine pT (.pointer (some ⟨O40, 2, none⟩)) ?_
         refine pU (.bool p.cl) (ex_load rfl (by kernel_rfl) (ld4 (bO40_2.1))) ?_
         refine pT (.pointer (some ⟨O46, 2, none⟩)) ?_
         refine pU (.bool q.cl) (ex_load rfl (by kernel_rfl) (ld4 (bO46_2.1))) ?_
         refine pU (.bool true) (ev_bool (show _ = Result.ok (Next.value (Value.bool (p.cl != q.cl))) _ from by kernel_rfl) hcl) ?_
         refine pT (.bool true) ?_; refine pT (.bool true) ?_; refine pK ?_; refine pK ?_; refine pK ?_; refine pK ?_; refine pK ?_; refine pK ?_; refine pT (.bool true) ?_; refine pl_nil ?_; refine qw_then ?_; refine cC4 2 3 5 80 (fun L => ?_)
         refine cw_t (by kernel_rfl) ?_
         refine cw_seq ?_; refine cw_plain ?_; refine pT (.bool false) ?_; refine pl_nil ?_; refine qw_then ?_
         refine cw_ret ?_
         refine qw_block_ret ?_
         refine qw_then_ret ?_
         refine qw_then_ret ?_
         refine qw_block_ret ?_
         refine qw_then_ret ?_
         refine qw_ret [.bool false] rfl ⟨(by kernel_rfl), trivial⟩ ?_
         exact ⟨congrArg (fun b => Ending.returned (Value.bool b)) (show Prod.sameP id ver ar ps id2 ver2 ar2 qs = false by unfold Prod.sameP; rw [show Prod.sameL ps qs = false from by rw [Hv, hst, (show Prod.sameB p q = false by unfold Prod.sameB; simp [hc52, hc53, (show (p.cl == q.cl) = false by simpa using hcl)])]; rfl]; simp []).symm, hE⟩
        ·
         refine pU (.bool true) (ev_ne (show _ = Result.ok (Next.value (Value.bool ((p.t : Int) != (q.t : Int)))) _ from by kernel_rfl) (hc53)) ?_
         refine pT (.bool true) ?_; refine pT (.bool true) ?_; refine pK ?_; refine pK ?_; refine pK ?_; refine pK ?_; refine pK ?_; refine pT (.bool true) ?_; refine pT (.bool true) ?_; refine pK ?_; refine pK ?_; refine pK ?_; refine pK ?_; refine pK ?_; refine pK ?_; refine pT (.bool true) ?_; refine pl_nil ?_; refine qw_then ?_; refine cC4 2 3 5 80 (fun L => ?_)
         refine cw_t (by kernel_rfl) ?_
         refine cw_seq ?_; refine cw_plain ?_; refine pT (.bool false) ?_; refine pl_nil ?_; refine qw_then ?_
         refine cw_ret ?_
         refine qw_block_ret ?_
         refine qw_then_ret ?_
         refine qw_then_ret ?_
         refine qw_block_ret ?_
         refine qw_then_ret ?_
         refine qw_ret [.bool false] rfl ⟨(by kernel_rfl), trivial⟩ ?_
         exact ⟨congrArg (fun b => Ending.returned (Value.bool b)) (show Prod.sameP id ver ar ps id2 ver2 ar2 qs = false by unfold Prod.sameP; rw [show Prod.sameL ps qs = false from by rw [Hv, hst, (show Prod.sameB p q = false by unfold Prod.sameB; simp [hc52, hc53, (show (p.cl == q.cl) = false by simpa using hcl)])]; rfl]; simp []).symm, hE⟩
       ·
        refine pU (.bool true) (ev_ne (show _ = Result.ok (Next.value (Value.bool ((p.im : Int) != (q.im : Int)))) _ from by kernel_rfl) (hc52)) ?_
        refine pT (.bool true) ?_; refine pK ?_; refine pK ?_; refine pK ?_; refine pK ?_; refine pK ?_; refine pT (.bool true) ?_; refine pT (.bool true) ?_; refine pK ?_; refine pK ?_; refine pK ?_; refine pK ?_; refine pK ?_; refine pT (.bool true) ?_; refine pT (.bool true) ?_; refine pK ?_; refine pK ?_; refine pK ?_; refine pK ?_; refine pK ?_; refine pK ?_; refine pT (.bool true) ?_; refine pl_nil ?_; refine qw_then ?_; refine cC4 2 3 5 80 (fun L => ?_)
        refine cw_t (by kernel_rfl) ?_
        refine cw_seq ?_; refine cw_plain ?_; refine pT (.bool false) ?_; refine pl_nil ?_; refine qw_then ?_
        refine cw_ret ?_
        refine qw_block_ret ?_
        refine qw_then_ret ?_
        refine qw_then_ret ?_
        refine qw_block_ret ?_
        refine qw_then_ret ?_
        refine qw_ret [.bool false] rfl ⟨(by kernel_rfl), trivial⟩ ?_
        exact ⟨congrArg (fun b => Ending.returned (Value.bool b)) (show Prod.sameP id ver ar ps id2 ver2 ar2 qs = false by unfold Prod.sameP; rw [show Prod.sameL ps qs = false from by rw [Hv, hst, (show Prod.sameB p q = false by unfold Prod.sameB; simp [hc52, (show (p.cl == q.cl) = false by simpa using hcl)])]; rfl]; simp []).symm, hE⟩
      ·
       refine cw_plain ?_; refine pT (.pointer (some ⟨O40, 0, none⟩)) ?_
       refine pU (.int .i64 p.im) (ex_load rfl (by kernel_rfl) (ld3 (bO40_0.1))) ?_
       refine pT (.pointer (some ⟨O46, 0, none⟩)) ?_
       refine pU (.int .i64 q.im) (ex_load rfl (by kernel_rfl) (ld3 (bO46_0.1))) ?_
       by_cases hc54 : (p.im : Int) = (q.im : Int)
       ·
        refine pU (.bool false) (ev_nne (show _ = Result.ok (Next.value (Value.bool ((p.im : Int) != (q.im : Int)))) _ from by kernel_rfl) (hc54)) ?_
        refine pT (.bool false) ?_; refine pT (.pointer (some ⟨O40, 1, none⟩)) ?_
        refine pU (.int .i64 p.t) (ex_load rfl (by kernel_rfl) (ld3 (bO40_1.1))) ?_
        refine pT (.pointer (some ⟨O46, 1, none⟩)) ?_
        refine pU (.int .i64 q.t) (ex_load rfl (by kernel_rfl) (ld3 (bO46_1.1))) ?_
        by_cases hc55 : (p.t : Int) = (q.t : Int)
        ·
         refine pU (.bool false) (ev_nne (show _ = Result.ok (Next.value (Value.bool ((p.t : Int) != (q.t : Int)))) _ from by kernel_rfl) (hc55)) ?_
         refine pT (.bool false) ?_; refine pT (.bool false) ?_; refine pT (.pointer (some ⟨O40, 2, none⟩)) ?_
         refine pU (.bool p.cl) (ex_load rfl (by kernel_rfl) (ld4 (bO40_2.1))) ?_
         refine pT (.pointer (some ⟨O46, 2, none⟩)) ?_
         refine pU (.bool q.cl) (ex_load rfl (by kernel_rfl) (ld4 (bO46_2.1))) ?_
         refine pU (.bool false) (ev_bool (show _ = Result.ok (Next.value (Value.bool (p.cl != q.cl))) _ from by kernel_rfl) hcl) ?_
         refine pT (.bool false) ?_; refine pT (.bool false) ?_; refine pT (.pointer (some ⟨O40, 3, none⟩)) ?_
         refine pU (.agg #[.slice ar20 k21 c22]) (ex_load rfl (by kernel_rfl) (ld26 (bO40_3.1))) ?_
         refine pT (.pointer (some ⟨O46, 3, none⟩)) ?_
         refine pU (.agg #[.slice ar31 k32 c33]) (ex_load rfl (by kernel_rfl) (ld26 (bO46_3.1))) ?_
         rcases Bool.eq_false_or_eq_true (decide (p.rw = q.rw)) with hb56 | hb56
         ·
          refine pS (sn_call (f := 25) (args := #[.agg #[.slice ar20 k21 c22], .agg #[.slice ar31 k32 c33]]) (by kernel_rfl) ((rSame_q (r := true) _ _ _ (hA28) hE (hA39) hE hb56).mono ?_))
          rintro e w57 ⟨rfl, hb⟩
          replace hE := hE.trans hb; replace bO1_0 := BoxAt.ext hb bO1_0; replace bO1_1 := BoxAt.ext hb bO1_1; replace bO1_2 := BoxAt.ext hb bO1_2; replace bO1_3 := BoxAt.ext hb bO1_3; replace bO5_0 := BoxAt.ext hb bO5_0; replace bO5_1 := BoxAt.ext hb bO5_1; replace bO5_2 := BoxAt.ext hb bO5_2; replace bO5_3 := BoxAt.ext hb bO5_3; replace bO40_0 := BoxAt.ext hb bO40_0; replace bO40_1 := BoxAt.ext hb bO40_1; replace bO40_2 := BoxAt.ext hb bO40_2; replace bO40_3 := BoxAt.ext hb bO40_3; replace bO46_0 := BoxAt.ext hb bO46_0; replace bO46_1 := BoxAt.ext hb bO46_1; replace bO46_2 := BoxAt.ext hb bO46_2; replace bO46_3 := BoxAt.ext hb bO46_3; have hs58 := hb.size; clear hb
          refine ⟨_, rfl, ?_⟩
          refine pT (.bool false) ?_; refine pT (.bool false) ?_; refine pl_nil ?_; refine qw_then ?_; refine cC4 2 3 5 80 (fun L => ?_)
          refine cw_f (by kernel_rfl) ?_
          refine cw_skip ?_
          refine qw_block ?_
          refine qw_then ?_; refine cw_plain ?_; refine pT (.int .i64 (((i : Nat) : Int) : Int)) ?_
          refine pU (.int .i64 (((i + 1 : Nat) : Int) : Int)) (ev_wrap (by kernel_rfl) (by omega) (by omega)) ?_
          refine pT (.int .i64 (((i + 1 : Nat) : Int) : Int)) ?_; refine pl_nil ?_
          refine qw_round [2, 3, 5] (ws' := [(2, .pointer (some ⟨O1, 0, none⟩)), (3, .pointer (some ⟨O5, 0, none⟩)), (5, .int .i64 (((i + 1 : Nat) : Int) : Int))]) (by kernel_rfl) _ ?_ ⟨(i + 1), rfl, rfl, (T hs15 (T hs42 (T hs45 (T hs48 (T hs51 hs58))))), hE, bO1_0, bO1_1, bO1_2, bO1_3, bO5_0, bO5_1, bO5_2, bO5_3, by omega, (by rw [Hv, hst, (show Prod.sameB p q = true by unfold Prod.sameB; simp [hb56, hc54, hc55, (show (p.cl == q.cl) = true by simpa using hcl)])]; rfl)⟩
          omega
         ·
          refine pS (sn_call (f := 25) (args := #[.agg #[.slice ar20 k21 c22], .agg #[.slice ar31 k32 c33]]) (by kernel_rfl) ((rSame_q (r := false) _ _ _ (hA28) hE (hA39) hE hb56).mono ?_))
          rintro e w59 ⟨rfl, hb⟩
          replace hE := hE.trans hb; replace bO1_0 := BoxAt.ext hb bO1_0; replace bO1_1 := BoxAt.ext hb bO1_1; replace bO1_2 := BoxAt.ext hb bO1_2; replace bO1_3 := BoxAt.ext hb bO1_3; replace bO5_0 := BoxAt.ext hb bO5_0; replace bO5_1 := BoxAt.ext hb bO5_1; replace bO5_2 := BoxAt.ext hb bO5_2; replace bO5_3 := BoxAt.ext hb bO5_3; replace bO40_0 := BoxAt.ext hb bO40_0; replace bO40_1 := BoxAt.ext hb bO40_1; replace bO40_2 := BoxAt.ext hb bO40_2; replace bO40_3 := BoxAt.ext hb bO40_3; replace bO46_0 := BoxAt.ext hb bO46_0; replace bO46_1 := BoxAt.ext hb bO46_1; replace bO46_2 := BoxAt.ext hb bO46_2; replace bO46_3 := BoxAt.ext hb bO46_3; have hs60 := hb.size; clear hb
          refine ⟨_, rfl, ?_⟩
          refine pT (.bool true) ?_; refine pT (.bool true) ?_; refine pl_nil ?_; refine qw_then ?_; refine cC4 2 3 5 80 (fun L => ?_)
          refine cw_t (by kernel_rfl) ?_
          refine cw_seq ?_; refine cw_plain ?_; refine pT (.bool false) ?_; refine pl_nil ?_; refine qw_then ?_
          refine cw_ret ?_
          refine qw_block_ret ?_
          refine qw_then_ret ?_
          refine qw_then_ret ?_
          refine qw_block_ret ?_
          refine qw_then_ret ?_
          refine qw_ret [.bool false] rfl ⟨(by kernel_rfl), trivial⟩ ?_
          exact ⟨congrArg (fun b => Ending.returned (Value.bool b)) (show Prod.sameP id ver ar ps id2 ver2 ar2 qs = false by unfold Prod.sameP; rw [show Prod.sameL ps qs = false from by rw [Hv, hst, (show Prod.sameB p q = false by unfold Prod.sameB; simp [hb56, hc54, hc55, (show (p.cl == q.cl) = true by simpa using hcl)])]; rfl]; simp []).symm, hE⟩
        ·
         refine pU (.bool true) (ev_ne (show _ = Result.ok (Next.value (Value.bool ((p.t : Int) != (q.t : Int)))) _ from by kernel_rfl) (hc55)) ?_
         refine pT (.bool true) ?_; refine pT (.bool true) ?_; refine pK ?_; refine pK ?_; refine pK ?_; refine pK ?_; refine pK ?_; refine pT (.bool true) ?_; refine pT (.bool true) ?_; refine pK ?_; refine pK ?_; refine pK ?_; refine pK ?_; refine pK ?_; refine pK ?_; refine pT (.bool true) ?_; refine pl_nil ?_; refine qw_then ?_; refine cC4 2 3 5 80 (fun L => ?_)
         refine cw_t (by kernel_rfl) ?_
         refine cw_seq ?_; refine cw_plain ?_; refine pT (.bool false) ?_; refine pl_nil ?_; refine qw_then ?_
         refine cw_ret ?_
         refine qw_block_ret ?_
         refine qw_then_ret ?_
         refine qw_then_ret ?_
         refine qw_block_ret ?_
         refine qw_then_ret ?_
         refine qw_ret [.bool false] rfl ⟨(by kernel_rfl), trivial⟩ ?_
         exact ⟨congrArg (fun b => Ending.returned (Value.bool b)) (show Prod.sameP id ver ar ps id2 ver2 ar2 qs = false by unfold Prod.sameP; rw [show Prod.sameL ps qs = false from by rw [Hv, hst, (show Prod.sameB p q = false by unfold Prod.sameB; simp [hc54, hc55, (show (p.cl == q.cl) = true by simpa using hcl)])]; rfl]; simp []).symm, hE⟩
       ·
        refine pU (.bool true) (ev_ne (show _ = Result.ok (Next.value (Value.bool ((p.im : Int) != (q.im : Int)))) _ from by kernel_rfl) (hc54)) ?_
        refine pT (.bool true) ?_; refine pK ?_; refine pK ?_; refine pK ?_; refine pK ?_; refine pK ?_; refine pT (.bool true) ?_; refine pT (.bool true) ?_; refine pK ?_; refine pK ?_; refine pK ?_; refine pK ?_; refine pK ?_; refine pT (.bool true) ?_; refine pT (.bool true) ?_; refine pK ?_; refine pK ?_; refine pK ?_; refine pK ?_; refine pK ?_; refine pK ?_; refine pT (.bool true) ?_; refine pl_nil ?_; refine qw_then ?_; refine cC4 2 3 5 80 (fun L => ?_)
        refine cw_t (by kernel_rfl) ?_
        refine cw_seq ?_; refine cw_plain ?_; refine pT (.bool false) ?_; refine pl_nil ?_; refine qw_then ?_
        refine cw_ret ?_
        refine qw_block_ret ?_
        refine qw_then_ret ?_
        refine qw_then_ret ?_
        refine qw_block_ret ?_
        refine qw_then_ret ?_
        refine qw_ret [.bool false] rfl ⟨(by kernel_rfl), trivial⟩ ?_
        exact ⟨congrArg (fun b => Ending.returned (Value.bool b)) (show Prod.sameP id ver ar ps id2 ver2 ar2 qs = false by unfold Prod.sameP; rw [show Prod.sameL ps qs = false from by rw [Hv, hst, (show Prod.sameB p q = false by unfold Prod.sameB; simp [hc54, (show (p.cl == q.cl) = true by simpa using hcl)])]; rfl]; simp []).symm, hE⟩
     ·
      have hin : i = n := by omega
      refine cw_seq ?_; refine cw_seq ?_; refine cw_plain ?_; refine pT (.int .i64 (((i : Nat) : Int) : Int)) ?_; refine pT (.pointer (some ⟨O1, 3, none⟩)) ?_
      refine pU (.slice a n c) (ex_load rfl (by kernel_rfl) (ld28 (bO1_3.1))) ?_
      refine pT (.int .i64 (((n : Nat) : Int) : Int)) ?_
      refine pU (.bool false) (ev_ndec (show _ = Result.ok (Next.value (Value.bool (decide ((((i : Nat) : Int) : Int) < (((n : Nat) : Int) : Int))))) _ from by kernel_rfl) (by omega)) ?_
      refine pl_nil ?_; refine qw_then ?_
      refine cw_f (by kernel_rfl) ?_
      refine cw_exit ?_
      refine qw_then_exit ?_
      refine qw_then_exit ?_
      refine qw_block_out ?_
      refine qw_then ?_; refine cw_seq ?_; refine cw_plain ?_; refine pT (.bool true) ?_; refine pl_nil ?_; refine qw_then ?_
      refine cw_ret ?_
      refine qw_ret [.bool true] rfl ⟨(by kernel_rfl), trivial⟩ ?_
      exact ⟨congrArg (fun b => Ending.returned (Value.bool b)) (show Prod.sameP id ver ar ps id2 ver2 ar2 qs = true by unfold Prod.sameP; rw [show Prod.sameL ps qs = true from by rw [Hv, hin, List.drop_of_length_le (Nat.le_of_eq hln), List.drop_of_length_le (Nat.le_of_eq hlm)]; rfl]; simp [hb11, hc9, hc10]).symm, hE⟩
    ·
     refine pU (.bool true) (ev_ne (show _ = Result.ok (Next.value (Value.bool ((((n : Nat) : Int) : Int) != (((m : Nat) : Int) : Int)))) _ from by kernel_rfl) (hc14)) ?_
     refine pT (.bool true) ?_; refine pl_nil ?_; refine qw_then ?_; refine cC3 2 3 36 (fun L => ?_)
     refine cw_t (by kernel_rfl) ?_
     refine cw_seq ?_; refine cw_plain ?_; refine pT (.bool false) ?_; refine pl_nil ?_; refine qw_then ?_
     refine cw_ret ?_
     refine qw_then_ret ?_
     refine qw_ret [.bool false] rfl ⟨(by kernel_rfl), trivial⟩ ?_
     exact ⟨congrArg (fun b => Ending.returned (Value.bool b)) (show Prod.sameP id ver ar ps id2 ver2 ar2 qs = false by unfold Prod.sameP; rw [show Prod.sameL ps qs = false from Prod.sameL_len (by omega)]; simp []).symm, hE⟩
   ·
    refine pS (sn_call (f := 25) (args := #[.agg #[.slice a1 n1 c1], .agg #[.slice b1 m1 d1]]) (by kernel_rfl) ((rSame_q (r := false) _ _ _ (hA) hE (hB) hE hb11).mono ?_))
    rintro e w61 ⟨rfl, hb⟩
    replace hE := hE.trans hb; replace bO1_0 := BoxAt.ext hb bO1_0; replace bO1_1 := BoxAt.ext hb bO1_1; replace bO1_2 := BoxAt.ext hb bO1_2; replace bO1_3 := BoxAt.ext hb bO1_3; replace bO5_0 := BoxAt.ext hb bO5_0; replace bO5_1 := BoxAt.ext hb bO5_1; replace bO5_2 := BoxAt.ext hb bO5_2; replace bO5_3 := BoxAt.ext hb bO5_3; have hs62 := hb.size; clear hb
    refine ⟨_, rfl, ?_⟩
    refine pT (.bool true) ?_; refine pT (.bool true) ?_; refine pT (.bool true) ?_; refine pK ?_; refine pK ?_; refine pK ?_; refine pK ?_; refine pK ?_; refine pK ?_; refine pK ?_; refine pT (.bool true) ?_; refine pl_nil ?_; refine qw_then ?_; refine cC3 2 3 36 (fun L => ?_)
    refine cw_t (by kernel_rfl) ?_
    refine cw_seq ?_; refine cw_plain ?_; refine pT (.bool false) ?_; refine pl_nil ?_; refine qw_then ?_
    refine cw_ret ?_
    refine qw_then_ret ?_
    refine qw_ret [.bool false] rfl ⟨(by kernel_rfl), trivial⟩ ?_
    exact ⟨congrArg (fun b => Ending.returned (Value.bool b)) (show Prod.sameP id ver ar ps id2 ver2 ar2 qs = false by unfold Prod.sameP; simp [hb11, hc9, hc10]).symm, hE⟩
  ·
   refine pU (.bool true) (ev_ne (show _ = Result.ok (Next.value (Value.bool ((ver : Int) != (ver2 : Int)))) _ from by kernel_rfl) (hc10)) ?_
   refine pT (.bool true) ?_; refine pT (.bool true) ?_; refine pK ?_; refine pK ?_; refine pK ?_; refine pK ?_; refine pK ?_; refine pK ?_; refine pT (.bool true) ?_; refine pT (.bool true) ?_; refine pK ?_; refine pK ?_; refine pK ?_; refine pK ?_; refine pK ?_; refine pK ?_; refine pK ?_; refine pT (.bool true) ?_; refine pl_nil ?_; refine qw_then ?_; refine cC3 2 3 36 (fun L => ?_)
   refine cw_t (by kernel_rfl) ?_
   refine cw_seq ?_; refine cw_plain ?_; refine pT (.bool false) ?_; refine pl_nil ?_; refine qw_then ?_
   refine cw_ret ?_
   refine qw_then_ret ?_
   refine qw_ret [.bool false] rfl ⟨(by kernel_rfl), trivial⟩ ?_
   exact ⟨congrArg (fun b => Ending.returned (Value.bool b)) (show Prod.sameP id ver ar ps id2 ver2 ar2 qs = false by unfold Prod.sameP; simp [hc9, hc10]).symm, hE⟩
 ·
  refine pU (.bool true) (ev_ne (show _ = Result.ok (Next.value (Value.bool ((id : Int) != (id2 : Int)))) _ from by kernel_rfl) (hc9)) ?_
  refine pT (.bool true) ?_; refine pK ?_; refine pK ?_; refine pK ?_; refine pK ?_; refine pK ?_; refine pT (.bool true) ?_; refine pT (.bool true) ?_; refine pK ?_; refine pK ?_; refine pK ?_; refine pK ?_; refine pK ?_; refine pK ?_; refine pT (.bool true) ?_; refine pT (.bool true) ?_; refine pK ?_; refine pK ?_; refine pK ?_; refine pK ?_; refine pK ?_; refine pK ?_; refine pK ?_; refine pT (.bool true) ?_; refine pl_nil ?_; refine qw_then ?_; refine cC3 2 3 36 (fun L => ?_)
  refine cw_t (by kernel_rfl) ?_
  refine cw_seq ?_; refine cw_plain ?_; refine pT (.bool false) ?_; refine pl_nil ?_; refine qw_then ?_
  refine cw_ret ?_
  refine qw_then_ret ?_
  refine qw_ret [.bool false] rfl ⟨(by kernel_rfl), trivial⟩ ?_
  exact ⟨congrArg (fun b => Ending.returned (Value.bool b)) (show Prod.sameP id ver ar ps id2 ver2 ar2 qs = false by unfold Prod.sameP; simp [hc9]).symm, hE⟩

end Go.Proofs.YtajdohcgjgknmaaDoor
