/- Part 4 of what the proof of SwathMatchesReference stands on. -/
import Derived.Test.YtdjjkhefdalokaaV3SwathMatchesReference
/- Contracts of package swath: Suns. -/
namespace Go.Proofs.Ytdjjkhefdalokaa
open Go.RowKit

set_option maxRecDepth 1000000 in
set_option maxHeartbeats 4000000 in
theorem sfirst_c (x y : Int) (w : World) : Calls Try.prog 54 #[.agg #[.int .i64 x, .int .i64 y]] w fun e w' => e = .returned (.agg #[.int .i64 x, .int .i64 y]) ∧ Ext w w' := by
 refine calls_cw 4 [(0, .agg #[.int .i64 x, .int .i64 y])] Try.func54 rfl Try.ntmps54 (by kernel_rfl) (by kernel_rfl) (fun L => ?_)
 have hE : Ext w w := Ext.refl w
 refine cw_seq ?_; refine cw_plain ?_
 refine pS (sn_new (us := #[.int .i64 x, .int .i64 y]) (t := 35) (by kernel_rfl) ?_)
 intro O1 X2 hzO1 hyO1 hb hbx; have ⟨bO1_0, bO1_1⟩ := bx2 hbx; clear hbx
 replace hE := hE.trans hb; have hs3 := hb.size; clear hb; have lt4 := bO1_0.lt
 refine pS (sn_new (us := #[.int .i64 0, .int .i64 0]) (t := 35) (by kernel_rfl) ?_)
 intro O5 X6 hzO5 hyO5 hb hbx; have ⟨bO5_0, bO5_1⟩ := bx2 hbx; clear hbx
 replace hE := hE.trans hb; replace bO1_0 := BoxAt.ext hb bO1_0; replace bO1_1 := BoxAt.ext hb bO1_1; have hs7 := hb.size; clear hb; have lt8 := bO5_0.lt; refine pl_nil ?_; refine qw_then ?_; refine cw_seq ?_; have hX9 : Ext X6 X6 := Ext.refl _; refine cw_plain ?_
 refine pU (.agg #[.int .i64 x, .int .i64 y]) (ex_load rfl (by kernel_rfl) (ld35 (bO1_0.1) (bO1_1.1))) ?_
 have bO1_t11 := bO1_0
 have bO1_t12 := bO1_1
 have bO5_t13 := bO5_0
 have bO5_t14 := bO5_1
 refine pP (sn_set2 (O := O5) (j := 0) (v := .int .i64 x) (v' := .int .i64 y) (ex_store (p := .pointer (some ⟨O5, 0, none⟩)) (v := .agg #[.int .i64 x, .int .i64 y]) rfl (by kernel_rfl) (by kernel_rfl) (st35 bO5_t13.1 bO5_t13.2 bO5_t14.1 bO5_t14.2)) bO5_t13 bO5_t14 ?_)
 intro X10 ho hv0 hv1 hk; replace hE := ho.ext hE (T hs3 (Nat.le_of_eq hzO5))
 have q9 := fun (j : Nat) (v : Value) (h : BoxAt _ O1 j v) => ho.box (Nat.ne_of_gt (Nat.lt_of_lt_of_le lt4 (Nat.le_of_eq hzO5))) h
 replace bO1_t11 := q9 _ _ bO1_t11; replace bO1_t12 := q9 _ _ bO1_t12; clear q9; have hs15 : X6.heap.size ≤ X10.heap.size := Nat.le_of_eq ho.size.symm; clear ho hk bO5_t13 bO5_t14; have bO5_t13 := hv0; clear hv0; have bO5_t14 := hv1; clear hv1; refine pl_nil ?_; refine qw_then ?_
 refine cw_ret ?_
 refine qw_ret [.agg #[.int .i64 x, .int .i64 y]] rfl ⟨⟨_, by kernel_rfl, res_ld (ld35 (bO5_t13.1) (bO5_t14.1))⟩, trivial⟩ ?_
 exact ⟨rfl, hE⟩
set_option maxRecDepth 1000000 in
set_option maxHeartbeats 4000000 in
theorem wider_c (x y u v : Int) (w : World) : Calls Try.prog 52 #[.agg #[.int .i64 x, .int .i64 y], .agg #[.int .i64 u, .int .i64 v]] w fun e w' => e = .returned (.agg #[.int .i64 (min x u), .int .i64 (max y v)]) ∧ Ext w w' := by
 refine calls_cw 16 [(1, .agg #[.int .i64 u, .int .i64 v]), (0, .agg #[.int .i64 x, .int .i64 y])] Try.func52 rfl Try.ntmps52 (by kernel_rfl) (by kernel_rfl) (fun L => ?_)
 have hE : Ext w w := Ext.refl w
 refine cw_seq ?_; refine cw_plain ?_
 refine pS (sn_new (us := #[.int .i64 x, .int .i64 y]) (t := 35) (by kernel_rfl) ?_)
 intro O1 X2 hzO1 hyO1 hb hbx; have ⟨bO1_0, bO1_1⟩ := bx2 hbx; clear hbx
 replace hE := hE.trans hb; have hs3 := hb.size; clear hb; have lt4 := bO1_0.lt
 refine pS (sn_new (us := #[.int .i64 u, .int .i64 v]) (t := 35) (by kernel_rfl) ?_)
 intro O5 X6 hzO5 hyO5 hb hbx; have ⟨bO5_0, bO5_1⟩ := bx2 hbx; clear hbx
 replace hE := hE.trans hb; replace bO1_0 := BoxAt.ext hb bO1_0; replace bO1_1 := BoxAt.ext hb bO1_1; have hs7 := hb.size; clear hb; have lt8 := bO5_0.lt
 refine pS (sn_new (us := #[.int .i64 0, .int .i64 0]) (t := 35) (by kernel_rfl) ?_)
 intro O9 X10 hzO9 hyO9 hb hbx; have ⟨bO9_0, bO9_1⟩ := bx2 hbx; clear hbx
 replace hE := hE.trans hb; replace bO1_0 := BoxAt.ext hb bO1_0; replace bO1_1 := BoxAt.ext hb bO1_1; replace bO5_0 := BoxAt.ext hb bO5_0; replace bO5_1 := BoxAt.ext hb bO5_1; have hs11 := hb.size; clear hb; have lt12 := bO9_0.lt; refine pl_nil ?_; refine qw_then ?_; refine cw_seq ?_; have hX13 : Ext X10 X10 := Ext.refl _; refine cw_plain ?_; refine pT (.pointer (some ⟨O1, 0, none⟩)) ?_
 refine pU (.int .i64 x) (ex_load rfl (by kernel_rfl) (ld3 (bO1_0.1))) ?_
 refine pT (.pointer (some ⟨O5, 0, none⟩)) ?_
 refine pU (.int .i64 u) (ex_load rfl (by kernel_rfl) (ld3 (bO5_0.1))) ?_
 refine pU (.int .i64 (min (x : Int) (u : Int) : Int)) (ev_int (show _ = Result.ok (Next.value (Value.int .i64 (if (u : Int) < (x : Int) then (u : Int) else (x : Int)))) _ from by kernel_rfl) (by split <;> omega)) ?_
 refine pT (.pointer (some ⟨O1, 1, none⟩)) ?_
 refine pU (.int .i64 y) (ex_load rfl (by kernel_rfl) (ld3 (bO1_1.1))) ?_
 refine pT (.pointer (some ⟨O5, 1, none⟩)) ?_
 refine pU (.int .i64 v) (ex_load rfl (by kernel_rfl) (ld3 (bO5_1.1))) ?_
 refine pU (.int .i64 (max (y : Int) (v : Int) : Int)) (ev_int (show _ = Result.ok (Next.value (Value.int .i64 (if (y : Int) < (v : Int) then (v : Int) else (y : Int)))) _ from by kernel_rfl) (by split <;> omega)) ?_
 refine pT (.agg #[.int .i64 (min (x : Int) (u : Int) : Int), .int .i64 (max (y : Int) (v : Int) : Int)]) ?_
 have bO1_t15 := bO1_0
 have bO1_t16 := bO1_1
 have bO5_t17 := bO5_0
 have bO5_t18 := bO5_1
 have bO9_t19 := bO9_0
 have bO9_t20 := bO9_1
 refine pP (sn_set2 (O := O9) (j := 0) (v := .int .i64 (min (x : Int) (u : Int) : Int)) (v' := .int .i64 (max (y : Int) (v : Int) : Int)) (ex_store (p := .pointer (some ⟨O9, 0, none⟩)) (v := .agg #[.int .i64 (min (x : Int) (u : Int) : Int), .int .i64 (max (y : Int) (v : Int) : Int)]) rfl (by kernel_rfl) (by kernel_rfl) (st35 bO9_t19.1 bO9_t19.2 bO9_t20.1 bO9_t20.2)) bO9_t19 bO9_t20 ?_)
 intro X14 ho hv0 hv1 hk; replace hE := ho.ext hE (T (T hs3 hs7) (Nat.le_of_eq hzO9))
 have q9 := fun (j : Nat) (v : Value) (h : BoxAt _ O1 j v) => ho.box (Nat.ne_of_gt (Nat.lt_of_lt_of_le lt4 (T hs7 (Nat.le_of_eq hzO9)))) h
 replace bO1_t15 := q9 _ _ bO1_t15; replace bO1_t16 := q9 _ _ bO1_t16; clear q9
 have q9 := fun (j : Nat) (v : Value) (h : BoxAt _ O5 j v) => ho.box (Nat.ne_of_gt (Nat.lt_of_lt_of_le lt8 (Nat.le_of_eq hzO9))) h
 replace bO5_t17 := q9 _ _ bO5_t17; replace bO5_t18 := q9 _ _ bO5_t18; clear q9; have hs21 : X10.heap.size ≤ X14.heap.size := Nat.le_of_eq ho.size.symm; clear ho hk bO9_t19 bO9_t20; have bO9_t19 := hv0; clear hv0; have bO9_t20 := hv1; clear hv1; refine pl_nil ?_; refine qw_then ?_; refine cC1 4 (fun L => ?_)
 refine cw_ret ?_
 refine qw_ret [.agg #[.int .i64 (min (x : Int) (u : Int) : Int), .int .i64 (max (y : Int) (v : Int) : Int)]] rfl ⟨⟨_, by kernel_rfl, res_ld (ld35 (bO9_t19.1) (bO9_t20.1))⟩, trivial⟩ ?_
 exact ⟨rfl, hE⟩
set_option maxRecDepth 1000000 in
set_option maxHeartbeats 4000000 in
theorem svalue_c {w0 : World} {Bo Bs Bl : Nat} {o : Orb} {s : Int × Int} {lk : Int} (d : Int) (w : World) (hS : StAt w0 Bo Bs Bl o s lk) (e0 : Ext w0 w) (hv : Swath.shB o s lk = true) (hd9 : Globe.inB d (-o.sl) o.sl = true) : Calls Try.prog 50 #[.int .i64 d, .pointer (some ⟨Bo, 0, none⟩), .pointer (some ⟨Bs, 0, none⟩), .pointer (some ⟨Bl, 0, none⟩)] w fun e w' => e = .returned (.agg #[.int .i64 (Swath.mm o s lk d (s.2 - s.1).toNat).1, .int .i64 (Swath.mm o s lk d (s.2 - s.1).toNat).2]) ∧ Ext w w' := by
 obtain ⟨⟨o0, o1, o2, o3, o4, o5, o6⟩, a0, a1, l0⟩ := hS
 replace o0 := e0.cell o0; replace o1 := e0.cell o1; replace o2 := e0.cell o2; replace o3 := e0.cell o3; replace o4 := e0.cell o4; replace o5 := e0.cell o5; replace o6 := e0.cell o6; replace a0 := e0.cell a0; replace a1 := e0.cell a1; replace l0 := e0.cell l0
 obtain ⟨hok, ⟨sp0, sp1, sp2, sp3⟩, hl0, hl1⟩ := Swath.shB_t.1 hv
 have hd := Globe.inB_t.1 hd9
 have hq0 := Orb.ok_t.1 hok
 refine icalls_cw 37 [(3, .pointer (some ⟨Bl, 0, none⟩)), (2, .pointer (some ⟨Bs, 0, none⟩)), (1, .pointer (some ⟨Bo, 0, none⟩)), (0, .int .i64 d)] Try.func50 rfl Try.ntmps50 (by kernel_rfl) (by kernel_rfl) (fun L mm => ?_)
 have hE : Ext w w := Ext.refl w
 refine icw_seq ?_
 refine icw_plain ?_
 refine ipl_step rfl (by kernel_rfl) (by kernel_rfl) (by kernel_rfl) (sn_new (us := #[.int .i64 0, .int .i64 0]) (t := 35) (by kernel_rfl) ?_)
 intro O1 X2 hzO1 hyO1 hb hbx; have ⟨bO1_0, bO1_1⟩ := bx2 hbx; clear hbx
 replace hE := hE.trans hb; have hs3 := hb.size; clear hb; have lt4 := bO1_0.lt
 refine ipl_nil ?_
 refine iqw_then ?_
 refine icw_seq ?_
 refine icw_plain ?_
 refine ipl_take (.agg #[.int .i64 90, .int .i64 (-90 : Int)]) rfl (by kernel_rfl) (by kernel_rfl) (by kernel_rfl) (by kernel_rfl) ?_
 refine ipl_step rfl (by kernel_rfl) (by kernel_rfl) (by kernel_rfl) (sn_new (us := #[.int .i64 0, .int .i64 0]) (t := 35) (by kernel_rfl) ?_)
 intro O5 X6 hzO5 hyO5 hb hbx; have ⟨bO5_0, bO5_1⟩ := bx2 hbx; clear hbx
 replace hE := hE.trans hb; replace bO1_0 := BoxAt.ext hb bO1_0; replace bO1_1 := BoxAt.ext hb bO1_1; have hs7 := hb.size; clear hb; have lt8 := bO5_0.lt
 refine ipl_put rfl (by kernel_rfl) (by kernel_rfl) (sn_set2 (O := O5) (j := 0) (v := .int .i64 90) (v' := .int .i64 (-90 : Int)) (ex_store (p := .pointer (some ⟨O5, 0, none⟩)) (v := .agg #[.int .i64 90, .int .i64 (-90 : Int)]) rfl (by kernel_rfl) (by kernel_rfl) (st35 bO5_0.1 bO5_0.2 bO5_1.1 bO5_1.2)) bO5_0 bO5_1 ?_)
 intro X9 ho hv0 hv1 hk; replace hE := ho.ext hE (T hs3 (Nat.le_of_eq hzO5))
 have q9 := fun (j : Nat) (v : Value) (h : BoxAt _ O1 j v) => ho.box (Nat.ne_of_gt (Nat.lt_of_lt_of_le lt4 (Nat.le_of_eq hzO5))) h
 replace bO1_0 := q9 _ _ bO1_0; replace bO1_1 := q9 _ _ bO1_1; clear q9; have hs10 : X6.heap.size ≤ X9.heap.size := Nat.le_of_eq ho.size.symm; clear ho hk bO5_0 bO5_1; have bO5_0 := hv0; clear hv0; have bO5_1 := hv1; clear hv1
 refine ipl_nil ?_
 refine iqw_then ?_
 refine icw_seq ?_
 refine icw_seq ?_
 refine icw_plain ?_
 refine ipl_take (.agg #[.int .i64 o.p, .int .i64 o.f, .int .i64 o.lo, .int .i64 o.hi, .int .i64 o.nd, .int .i64 o.tn, .int .i64 o.sl]) rfl (by kernel_rfl) (by kernel_rfl) (by kernel_rfl) (ex_load rfl (by kernel_rfl) (ld24 ((hE.cell o0)) ((hE.cell o1)) ((hE.cell o2)) ((hE.cell o3)) ((hE.cell o4)) ((hE.cell o5)) ((hE.cell o6)))) ?_
 refine ipl_take (.agg #[.int .i64 s.1, .int .i64 s.2]) rfl (by kernel_rfl) (by kernel_rfl) (by kernel_rfl) (ex_load rfl (by kernel_rfl) (ld26 ((hE.cell a0)) ((hE.cell a1)))) ?_
 refine ipl_take (.int .i64 lk) rfl (by kernel_rfl) (by kernel_rfl) (by kernel_rfl) (ex_load rfl (by kernel_rfl) (ld3 ((hE.cell l0)))) ?_
 refine ipl_take (.int .i64 d) rfl (by kernel_rfl) (by kernel_rfl) (by kernel_rfl) (by kernel_rfl) ?_
 refine ipl_step rfl (by kernel_rfl) (by kernel_rfl) (by kernel_rfl) (sn_call (f := 51) (args := #[.agg #[.int .i64 o.p, .int .i64 o.f, .int .i64 o.lo, .int .i64 o.hi, .int .i64 o.nd, .int .i64 o.tn, .int .i64 o.sl], .agg #[.int .i64 s.1, .int .i64 s.2], .int .i64 lk, .int .i64 d]) (by kernel_rfl) ((shown_c o s lk d _).mono ?_))
 rintro e w20 ⟨B11, B12, B13, B14, rfl, ⟨hn15, hn16, hn17, hn18⟩, hS19, hb⟩
 replace hE := hE.trans hb; replace bO1_0 := BoxAt.ext hb bO1_0; replace bO1_1 := BoxAt.ext hb bO1_1; replace bO5_0 := BoxAt.ext hb bO5_0; replace bO5_1 := BoxAt.ext hb bO5_1; have hs21 := hb.size; clear hb; have hX22 : Ext w20 w20 := Ext.refl _
 refine ⟨_, rfl, ?_⟩
 refine ipl_nil ?_
 refine iqw_then ?_
 refine icw_block ?_
 refine icw_range (ps := [16]) (by kernel_rfl) (enters_of Try.func82 (by kernel_rfl) rfl) (shown_seq hv hd9 (fun b hb hx => (fun h => h.elim (fun e => (Nat.ne_of_gt (Nat.lt_of_lt_of_le lt8 (T hs10 hn15))) (e.symm.trans hx)) (fun h => h.elim (fun e => (Nat.ne_of_gt (Nat.lt_of_lt_of_le lt8 (T hs10 hn16))) (e.symm.trans hx)) (fun h => h.elim (fun e => (Nat.ne_of_gt (Nat.lt_of_lt_of_le lt8 (T hs10 hn17))) (e.symm.trans hx)) (fun e => (Nat.ne_of_gt (Nat.lt_of_lt_of_le lt8 (T hs10 hn18))) (e.symm.trans hx))))) hb) (fun k hk => hk ▸ (Nat.lt_of_lt_of_le lt8 (T hs10 hs21))) hS19) (Ext.refl _) (fun _ => rfl) (by kernel_rfl) (fun i W => w20.heap.size ≤ W.heap.size ∧ Ext w W ∧ BoxAt W O1 0 (.int .i64 0) ∧ BoxAt W O1 1 (.int .i64 0) ∧ BoxAt W O5 0 (.int .i64 ((Swath.mm o s lk d i).1 : Int)) ∧ BoxAt W O5 1 (.int .i64 ((Swath.mm o s lk d i).2 : Int))) (fun _ _ _ => False) (fun i A B h hm => by obtain ⟨hsz, hE, bO1_0, bO1_1, z0, z1⟩ := h; exact ⟨T hsz hm.size, hm.ext hE (T hs3 (T hs7 (T hs10 hs21))), hm.box bO1_0, hm.box bO1_1, hm.box z0, hm.box z1⟩) (fun _ _ _ _ h _ => h.elim) ⟨Nat.le_refl _, hE, bO1_0, bO1_1, bO5_0, bO5_1⟩ ?_ ?_ ?_
 ·
  clear bO1_0 bO1_1 bO5_0 bO5_1 hE
  intro l25 k26 i w23 hii h _
  obtain ⟨hs24, hE, bO1_0, bO1_1, z0, z1⟩ := h
  refine icw_clean [6, 16] (ws' := [(6, .pointer (some ⟨O5, 0, none⟩)), (16, .agg #[.int .i64 (((Swath.sx o lk (s.1 + ((i : Nat) : Int) - d) : Nat) : Int) : Int), .int .i64 (((Orb.cy o (s.1 + ((i : Nat) : Int) - d) : Nat) : Int) : Int), .int .i64 (s.1 + ((i : Nat) : Int) : Int)])]) (by kernel_rfl) (fun L => ?_)
  have hrk27 : RK w20.heap.size (fun k => k = O5) w23 w23 := RK.refl _ _ _
  refine icw_plain ?_
  refine ipl_step rfl (by kernel_rfl) (by kernel_rfl) (by kernel_rfl) (sn_new (us := #[.int .i64 0, .int .i64 0, .int .i64 0]) (t := 85) (by kernel_rfl) ?_)
  intro O28 X29 hzO28 hyO28 hb hbx; have ⟨bO28_0, bO28_1, bO28_2⟩ := bx3 hbx; clear hbx
  replace hE := hE.trans hb; replace bO1_0 := BoxAt.ext hb bO1_0; replace bO1_1 := BoxAt.ext hb bO1_1; replace z0 := BoxAt.ext hb z0; replace z1 := BoxAt.ext hb z1; replace hrk27 := hrk27.ext hb; have hs30 := hb.size; clear hb; have lt31 := bO28_0.lt
  refine ipl_put rfl (by kernel_rfl) (by kernel_rfl) (sn_setK3 (O := O28) (j := 0) (v0 := .int .i64 (((Swath.sx o lk (s.1 + ((i : Nat) : Int) - d) : Nat) : Int) : Int)) (v1 := .int .i64 (((Orb.cy o (s.1 + ((i : Nat) : Int) - d) : Nat) : Int) : Int)) (v2 := .int .i64 (s.1 + ((i : Nat) : Int) : Int)) (ex_store (p := .pointer (some ⟨O28, 0, none⟩)) (v := .agg #[.int .i64 (((Swath.sx o lk (s.1 + ((i : Nat) : Int) - d) : Nat) : Int) : Int), .int .i64 (((Orb.cy o (s.1 + ((i : Nat) : Int) - d) : Nat) : Int) : Int), .int .i64 (s.1 + ((i : Nat) : Int) : Int)]) rfl (by kernel_rfl) (by kernel_rfl) (st85 bO28_0.1 bO28_0.2 bO28_1.1 bO28_1.2 bO28_2.1 bO28_2.2)) bO28_0 bO28_1 bO28_2 ?_)
  intro X32 ho hv0 hv1 hv2 hk; replace hE := ho.ext hE (T (T hs3 (T hs7 (T hs10 (T hs21 hs24)))) (Nat.le_of_eq hzO28))
  have q9 := fun (j : Nat) (v : Value) (h : BoxAt _ O1 j v) => ho.box (Nat.ne_of_gt (Nat.lt_of_lt_of_le lt4 (T (T hs7 (T hs10 (T hs21 hs24))) (Nat.le_of_eq hzO28)))) h
  replace bO1_0 := q9 _ _ bO1_0; replace bO1_1 := q9 _ _ bO1_1; clear q9; replace z0 := ho.box (Nat.ne_of_gt (Nat.lt_of_lt_of_le lt8 (T (T hs10 (T hs21 hs24)) (Nat.le_of_eq hzO28)))) z0; replace z1 := ho.box (Nat.ne_of_gt (Nat.lt_of_lt_of_le lt8 (T (T hs10 (T hs21 hs24)) (Nat.le_of_eq hzO28)))) z1; replace hrk27 := hrk27.turn ho (.inr (Nat.le_of_eq hzO28)); have hs33 : X29.heap.size ≤ X32.heap.size := Nat.le_of_eq ho.size.symm; clear ho hk bO28_0 bO28_1 bO28_2; have bO28_0 := hv0; clear hv0; have bO28_1 := hv1; clear hv1; have bO28_2 := hv2; clear hv2
  refine ipl_nil ?_
  refine iqw_asg hrk27 (fun w35 hm34 => ?_)
  replace hE := hm34.ext hE (T hs3 (T hs7 (T hs10 hs21))); replace bO1_0 := hm34.box bO1_0; replace bO1_1 := hm34.box bO1_1; replace z0 := hm34.box z0; replace z1 := hm34.box z1; replace bO28_0 := hm34.box bO28_0; replace bO28_1 := hm34.box bO28_1; replace bO28_2 := hm34.box bO28_2; have hs36 := hm34.size
  have hrk37 : RK w20.heap.size (fun k => k = O5) w35 w35 := RK.refl _ _ _
  refine icw_block ?_
  refine icw_seq ?_
  have hmin : Sun.minB (s.1 + ((i : Nat) : Int)) = true := Sun.minB_t.2 ⟨by omega, by omega⟩
  have hsx := Swath.sx_lt o lk (s.1 + ((i : Nat) : Int) - d)
  have hcy := Orb.cy_lt hok (s.1 + ((i : Nat) : Int) - d)
  have hvc : Globe.vcB ((Swath.sx o lk (s.1 + ((i : Nat) : Int) - d) : Nat) : Int) ((Orb.cy o (s.1 + ((i : Nat) : Int) - d) : Nat) : Int) = true := Globe.vcB_t.2 ⟨by omega, by omega, by omega, by omega⟩
  refine icw_plain ?_
  refine ipl_take (.pointer (some ⟨O28, 0, none⟩)) rfl (by kernel_rfl) (by kernel_rfl) (by kernel_rfl) (by kernel_rfl) ?_
  refine ipl_take (.agg #[.int .i64 (((Swath.sx o lk (s.1 + ((i : Nat) : Int) - d) : Nat) : Int) : Int), .int .i64 (((Orb.cy o (s.1 + ((i : Nat) : Int) - d) : Nat) : Int) : Int)]) rfl (by kernel_rfl) (by kernel_rfl) (by kernel_rfl) (ex_load rfl (by kernel_rfl) (ld57 (bO28_0.1) (bO28_1.1))) ?_
  refine ipl_take (.pointer (some ⟨O28, 2, none⟩)) rfl (by kernel_rfl) (by kernel_rfl) (by kernel_rfl) (by kernel_rfl) ?_
  refine ipl_take (.int .i64 (s.1 + ((i : Nat) : Int) : Int)) rfl (by kernel_rfl) (by kernel_rfl) (by kernel_rfl) (ex_load rfl (by kernel_rfl) (ld3 (bO28_2.1))) ?_
  refine ipl_step rfl (by kernel_rfl) (by kernel_rfl) (by kernel_rfl) (sn_call (f := 29) (args := #[.agg #[.int .i64 (((Swath.sx o lk (s.1 + ((i : Nat) : Int) - d) : Nat) : Int) : Int), .int .i64 (((Orb.cy o (s.1 + ((i : Nat) : Int) - d) : Nat) : Int) : Int)], .int .i64 (s.1 + ((i : Nat) : Int) : Int)]) (by kernel_rfl) ((Height_yes _ _ _ _ hmin hvc).mono ?_))
  rintro e w38 ⟨rfl, hb⟩
  replace hE := hE.trans hb; replace bO1_0 := BoxAt.ext hb bO1_0; replace bO1_1 := BoxAt.ext hb bO1_1; replace z0 := BoxAt.ext hb z0; replace z1 := BoxAt.ext hb z1; replace bO28_0 := BoxAt.ext hb bO28_0; replace bO28_1 := BoxAt.ext hb bO28_1; replace bO28_2 := BoxAt.ext hb bO28_2; replace hrk37 := hrk37.ext hb; have hs39 := hb.size; clear hb
  refine ⟨_, rfl, ?_⟩
  refine ipl_take (.tuple #[.int .i64 (Swath.hgt o s lk d i : Int), .int .i64 0]) rfl (by kernel_rfl) (by kernel_rfl) (by kernel_rfl) (by kernel_rfl) ?_
  refine ipl_take (.int .i64 (Swath.hgt o s lk d i : Int)) rfl (by kernel_rfl) (by kernel_rfl) (by kernel_rfl) (by kernel_rfl) ?_
  refine ipl_take (.int .i64 0) rfl (by kernel_rfl) (by kernel_rfl) (by kernel_rfl) (by kernel_rfl) ?_
  refine ipl_take (.int .i64 (Swath.hgt o s lk d i : Int)) rfl (by kernel_rfl) (by kernel_rfl) (by kernel_rfl) (by kernel_rfl) ?_
  refine ipl_take (.int .i64 0) rfl (by kernel_rfl) (by kernel_rfl) (by kernel_rfl) (by kernel_rfl) ?_
  refine ipl_nil ?_
  refine iqw_then ?_
  refine icw_seq ?_
  refine icw_seq ?_
  refine icw_plain ?_
  refine ipl_take (.int .i64 0) rfl (by kernel_rfl) (by kernel_rfl) (by kernel_rfl) (by kernel_rfl) ?_
  refine ipl_take (.bool false) rfl (by kernel_rfl) (by kernel_rfl) (by kernel_rfl) (by kernel_rfl) ?_
  refine ipl_nil ?_
  refine iqw_then ?_
  refine icw_clean [6, 8, 26] (ws' := [(6, .pointer (some ⟨O5, 0, none⟩)), (8, .int .i64 (Swath.hgt o s lk d i : Int)), (26, .bool false)]) (by kernel_rfl) (fun L => ?_)
  refine icw_f (by kernel_rfl) ?_
  refine icw_skip ?_
  refine iqw_then ?_
  refine icw_plain ?_
  refine ipl_take (.pointer (some ⟨O5, 0, none⟩)) rfl (by kernel_rfl) (by kernel_rfl) (by kernel_rfl) (by kernel_rfl) ?_
  refine ipl_take (.int .i64 ((Swath.mm o s lk d i).1 : Int)) rfl (by kernel_rfl) (by kernel_rfl) (by kernel_rfl) (ex_load rfl (by kernel_rfl) (ld3 (z0.1))) ?_
  refine ipl_take (.int .i64 (Swath.hgt o s lk d i : Int)) rfl (by kernel_rfl) (by kernel_rfl) (by kernel_rfl) (by kernel_rfl) ?_
  refine ipl_take (.int .i64 (min ((Swath.mm o s lk d i).1 : Int) (Swath.hgt o s lk d i : Int) : Int)) rfl (by kernel_rfl) (by kernel_rfl) (by kernel_rfl) (ev_int (show _ = Result.ok (Next.value (Value.int .i64 (if (Swath.hgt o s lk d i : Int) < ((Swath.mm o s lk d i).1 : Int) then (Swath.hgt o s lk d i : Int) else ((Swath.mm o s lk d i).1 : Int)))) _ from by kernel_rfl) (by split <;> omega)) ?_
  refine ipl_take (.pointer (some ⟨O5, 1, none⟩)) rfl (by kernel_rfl) (by kernel_rfl) (by kernel_rfl) (by kernel_rfl) ?_
  refine ipl_take (.int .i64 ((Swath.mm o s lk d i).2 : Int)) rfl (by kernel_rfl) (by kernel_rfl) (by kernel_rfl) (ex_load rfl (by kernel_rfl) (ld3 (z1.1))) ?_
  refine ipl_take (.int .i64 (Swath.hgt o s lk d i : Int)) rfl (by kernel_rfl) (by kernel_rfl) (by kernel_rfl) (by kernel_rfl) ?_
  refine ipl_take (.int .i64 (max ((Swath.mm o s lk d i).2 : Int) (Swath.hgt o s lk d i : Int) : Int)) rfl (by kernel_rfl) (by kernel_rfl) (by kernel_rfl) (ev_int (show _ = Result.ok (Next.value (Value.int .i64 (if ((Swath.mm o s lk d i).2 : Int) < (Swath.hgt o s lk d i : Int) then (Swath.hgt o s lk d i : Int) else ((Swath.mm o s lk d i).2 : Int)))) _ from by kernel_rfl) (by split <;> omega)) ?_
  refine ipl_take (.agg #[.int .i64 (min ((Swath.mm o s lk d i).1 : Int) (Swath.hgt o s lk d i : Int) : Int), .int .i64 (max ((Swath.mm o s lk d i).2 : Int) (Swath.hgt o s lk d i : Int) : Int)]) rfl (by kernel_rfl) (by kernel_rfl) (by kernel_rfl) (by kernel_rfl) ?_
  refine ipl_put rfl (by kernel_rfl) (by kernel_rfl) (sn_set2 (O := O5) (j := 0) (v := .int .i64 (min ((Swath.mm o s lk d i).1 : Int) (Swath.hgt o s lk d i : Int) : Int)) (v' := .int .i64 (max ((Swath.mm o s lk d i).2 : Int) (Swath.hgt o s lk d i : Int) : Int)) (ex_store (p := .pointer (some ⟨O5, 0, none⟩)) (v := .agg #[.int .i64 (min ((Swath.mm o s lk d i).1 : Int) (Swath.hgt o s lk d i : Int) : Int), .int .i64 (max ((Swath.mm o s lk d i).2 : Int) (Swath.hgt o s lk d i : Int) : Int)]) rfl (by kernel_rfl) (by kernel_rfl) (st35 z0.1 z0.2 z1.1 z1.2)) z0 z1 ?_)
  intro X40 ho hv0 hv1 hk; replace hE := ho.ext hE (T hs3 (Nat.le_of_eq hzO5))
  have q9 := fun (j : Nat) (v : Value) (h : BoxAt _ O1 j v) => ho.box (Nat.ne_of_gt (Nat.lt_of_lt_of_le lt4 (Nat.le_of_eq hzO5))) h
  replace bO1_0 := q9 _ _ bO1_0; replace bO1_1 := q9 _ _ bO1_1; clear q9
  have q9 := fun (j : Nat) (v : Value) (h : BoxAt _ O28 j v) => ho.box (Nat.ne_of_lt (Nat.lt_of_lt_of_le lt8 (T (T hs10 (T hs21 hs24)) (Nat.le_of_eq hzO28)))) h
  replace bO28_0 := q9 _ _ bO28_0; replace bO28_1 := q9 _ _ bO28_1; replace bO28_2 := q9 _ _ bO28_2; clear q9; replace hrk37 := hrk37.turn ho (.inl (rfl)); have hs41 : w38.heap.size ≤ X40.heap.size := Nat.le_of_eq ho.size.symm; clear ho hk z0 z1; have z0 := hv0; clear hv0; have z1 := hv1; clear hv1
  refine ipl_nil ?_
  refine iqw_block ?_
  exact iqw_next hrk37 ⟨(T hs24 (T hs30 (T hs33 (T hs36 (T hs39 hs41))))), hE, bO1_0, bO1_1, z0, z1⟩
 ·
  clear bO1_0 bO1_1 bO5_0 bO5_1 hE
  intro D42 w43 hD46 hDl47 h hmk45
  obtain ⟨hs44, hE, bO1_0, bO1_1, z0, z1⟩ := h
  refine iqw_block ?_
  refine iqw_then ?_
  refine icw_seq ?_
  refine icw_plain ?_
  refine ipl_take (.agg #[.int .i64 ((Swath.mm o s lk d ((s.2 - s.1).toNat)).1 : Int), .int .i64 ((Swath.mm o s lk d ((s.2 - s.1).toNat)).2 : Int)]) rfl (by kernel_rfl) (by kernel_rfl) (by kernel_rfl) (ex_load rfl (by kernel_rfl) (ld35 (z0.1) (z1.1))) ?_
  refine ipl_put rfl (by kernel_rfl) (by kernel_rfl) (sn_set2 (O := O1) (j := 0) (v := .int .i64 ((Swath.mm o s lk d ((s.2 - s.1).toNat)).1 : Int)) (v' := .int .i64 ((Swath.mm o s lk d ((s.2 - s.1).toNat)).2 : Int)) (ex_store (p := .pointer (some ⟨O1, 0, none⟩)) (v := .agg #[.int .i64 ((Swath.mm o s lk d ((s.2 - s.1).toNat)).1 : Int), .int .i64 ((Swath.mm o s lk d ((s.2 - s.1).toNat)).2 : Int)]) rfl (by kernel_rfl) (by kernel_rfl) (st35 bO1_0.1 bO1_0.2 bO1_1.1 bO1_1.2)) bO1_0 bO1_1 ?_)
  intro X48 ho hv0 hv1 hk; replace hE := ho.ext hE (Nat.le_of_eq hzO1); replace z0 := ho.box (Nat.ne_of_lt (Nat.lt_of_lt_of_le lt4 (Nat.le_of_eq hzO5))) z0; replace z1 := ho.box (Nat.ne_of_lt (Nat.lt_of_lt_of_le lt4 (Nat.le_of_eq hzO5))) z1; replace hmk45 := mk_turn hmk45 ho; have hs49 : w43.heap.size ≤ X48.heap.size := Nat.le_of_eq ho.size.symm; clear ho hk bO1_0 bO1_1; have bO1_0 := hv0; clear hv0; have bO1_1 := hv1; clear hv1
  refine ipl_nil ?_
  refine iqw_then ?_
  refine icw_ret ?_
  refine iqw_ret w.heap.size [.agg #[.int .i64 ((Swath.mm o s lk d ((s.2 - s.1).toNat)).1 : Int), .int .i64 ((Swath.mm o s lk d ((s.2 - s.1).toNat)).2 : Int)]] rfl (marksC (T (T hs3 (T hs7 (T hs10 hs21))) hD46) hmk45 (fun _ h => by cases h)) (by simp) (fun W9 hm9 => ?_)
  replace hE := hm9.ext hE (Nat.le_refl _); replace z0 := hm9.box z0; replace z1 := hm9.box z1; replace bO1_0 := hm9.box bO1_0; replace bO1_1 := hm9.box bO1_1; have hs50 := hm9.size
  refine ⟨⟨⟨_, by kernel_rfl, res_ld (ld35 (bO1_0.1) (bO1_1.1))⟩, trivial⟩, ?_⟩
  exact ⟨rfl, hE⟩
 · intro _ _ _ _ _ _ _ h _; exact h.elim
set_option maxRecDepth 1000000 in
set_option maxHeartbeats 4000000 in
theorem foldN_c {w0 : World} {Bo Bs Bl : Nat} {o : Orb} {s : Int × Int} {lk : Int} (w : World) (hS : StAt w0 Bo Bs Bl o s lk) (e0 : Ext w0 w) (hv : Swath.shB o s lk = true) :
  Calls Try.prog 53 #[.agg #[.int .i64 o.p, .int .i64 o.f, .int .i64 o.lo, .int .i64 o.hi, .int .i64 o.nd, .int .i64 o.tn, .int .i64 o.sl], .func (.func 50) #[] #[.pointer (some ⟨Bo, 0, none⟩), .pointer (some ⟨Bs, 0, none⟩), .pointer (some ⟨Bl, 0, none⟩)], .func (.func 54) #[] #[], .func (.func 52) #[] #[]] w fun e w' => e = .returned (.agg #[.int .i64 (Swath.suns o s lk).1, .int .i64 (Swath.suns o s lk).2]) ∧ Ext w w' := by
 obtain ⟨hok, ⟨sp0, sp1, sp2, sp3⟩, hl0, hl1⟩ := Swath.shB_t.1 hv
 have hq0 := Orb.ok_t.1 hok
 have hN : Swath.lates o = (2 * o.sl + 1).toNat := rfl
 refine icalls_cw 31 [(3, .func (.func 52) #[] #[]), (2, .func (.func 54) #[] #[]), (1, .func (.func 50) #[] #[.pointer (some ⟨Bo, 0, none⟩), .pointer (some ⟨Bs, 0, none⟩), .pointer (some ⟨Bl, 0, none⟩)]), (0, .agg #[.int .i64 o.p, .int .i64 o.f, .int .i64 o.lo, .int .i64 o.hi, .int .i64 o.nd, .int .i64 o.tn, .int .i64 o.sl])] Try.func53 rfl Try.ntmps53 (by kernel_rfl) (by kernel_rfl) (fun L mm => ?_)
 have hE : Ext w w := Ext.refl w
 refine icw_seq ?_
 refine icw_plain ?_
 refine ipl_step rfl (by kernel_rfl) (by kernel_rfl) (by kernel_rfl) (sn_new (us := #[.int .i64 o.p, .int .i64 o.f, .int .i64 o.lo, .int .i64 o.hi, .int .i64 o.nd, .int .i64 o.tn, .int .i64 o.sl]) (t := 24) (by kernel_rfl) ?_)
 intro O1 X2 hzO1 hyO1 hb hbx; have ⟨bO1_0, bO1_1, bO1_2, bO1_3, bO1_4, bO1_5, bO1_6⟩ := bx7 hbx; clear hbx
 replace hE := hE.trans hb; have hs3 := hb.size; clear hb; have lt4 := bO1_0.lt
 refine ipl_step rfl (by kernel_rfl) (by kernel_rfl) (by kernel_rfl) (sn_new (us := #[.func (.func 50) #[] #[.pointer (some ⟨Bo, 0, none⟩), .pointer (some ⟨Bs, 0, none⟩), .pointer (some ⟨Bl, 0, none⟩)]]) (t := 86) (by kernel_rfl) ?_)
 intro O5 X6 hzO5 hyO5 hb hbx; have bO5_0 := bx1 hbx; clear hbx
 replace hE := hE.trans hb; replace bO1_0 := BoxAt.ext hb bO1_0; replace bO1_1 := BoxAt.ext hb bO1_1; replace bO1_2 := BoxAt.ext hb bO1_2; replace bO1_3 := BoxAt.ext hb bO1_3; replace bO1_4 := BoxAt.ext hb bO1_4; replace bO1_5 := BoxAt.ext hb bO1_5; replace bO1_6 := BoxAt.ext hb bO1_6; have hs7 := hb.size; clear hb; have lt8 := bO5_0.lt
 refine ipl_step rfl (by kernel_rfl) (by kernel_rfl) (by kernel_rfl) (sn_new (us := #[.func (.func 54) #[] #[]]) (t := 89) (by kernel_rfl) ?_)
 intro O9 X10 hzO9 hyO9 hb hbx; have bO9_0 := bx1 hbx; clear hbx
 replace hE := hE.trans hb; replace bO1_0 := BoxAt.ext hb bO1_0; replace bO1_1 := BoxAt.ext hb bO1_1; replace bO1_2 := BoxAt.ext hb bO1_2; replace bO1_3 := BoxAt.ext hb bO1_3; replace bO1_4 := BoxAt.ext hb bO1_4; replace bO1_5 := BoxAt.ext hb bO1_5; replace bO1_6 := BoxAt.ext hb bO1_6; replace bO5_0 := BoxAt.ext hb bO5_0; have hs11 := hb.size; clear hb; have lt12 := bO9_0.lt
 refine ipl_step rfl (by kernel_rfl) (by kernel_rfl) (by kernel_rfl) (sn_new (us := #[.func (.func 52) #[] #[]]) (t := 87) (by kernel_rfl) ?_)
 intro O13 X14 hzO13 hyO13 hb hbx; have bO13_0 := bx1 hbx; clear hbx
 replace hE := hE.trans hb; replace bO1_0 := BoxAt.ext hb bO1_0; replace bO1_1 := BoxAt.ext hb bO1_1; replace bO1_2 := BoxAt.ext hb bO1_2; replace bO1_3 := BoxAt.ext hb bO1_3; replace bO1_4 := BoxAt.ext hb bO1_4; replace bO1_5 := BoxAt.ext hb bO1_5; replace bO1_6 := BoxAt.ext hb bO1_6; replace bO5_0 := BoxAt.ext hb bO5_0; replace bO9_0 := BoxAt.ext hb bO9_0; have hs15 := hb.size; clear hb; have lt16 := bO13_0.lt
 refine ipl_step rfl (by kernel_rfl) (by kernel_rfl) (by kernel_rfl) (sn_new (us := #[.int .i64 0, .int .i64 0]) (t := 35) (by kernel_rfl) ?_)
 intro O17 X18 hzO17 hyO17 hb hbx; have ⟨bO17_0, bO17_1⟩ := bx2 hbx; clear hbx
 replace hE := hE.trans hb; replace bO1_0 := BoxAt.ext hb bO1_0; replace bO1_1 := BoxAt.ext hb bO1_1; replace bO1_2 := BoxAt.ext hb bO1_2; replace bO1_3 := BoxAt.ext hb bO1_3; replace bO1_4 := BoxAt.ext hb bO1_4; replace bO1_5 := BoxAt.ext hb bO1_5; replace bO1_6 := BoxAt.ext hb bO1_6; replace bO5_0 := BoxAt.ext hb bO5_0; replace bO9_0 := BoxAt.ext hb bO9_0; replace bO13_0 := BoxAt.ext hb bO13_0; have hs19 := hb.size; clear hb; have lt20 := bO17_0.lt
 refine ipl_nil ?_
 refine iqw_then ?_
 refine icw_seq ?_
 refine icw_plain ?_
 refine ipl_step rfl (by kernel_rfl) (by kernel_rfl) (by kernel_rfl) (sn_new (us := #[.int .i64 0, .int .i64 0]) (t := 35) (by kernel_rfl) ?_)
 intro O21 X22 hzO21 hyO21 hb hbx; have ⟨bO21_0, bO21_1⟩ := bx2 hbx; clear hbx
 replace hE := hE.trans hb; replace bO1_0 := BoxAt.ext hb bO1_0; replace bO1_1 := BoxAt.ext hb bO1_1; replace bO1_2 := BoxAt.ext hb bO1_2; replace bO1_3 := BoxAt.ext hb bO1_3; replace bO1_4 := BoxAt.ext hb bO1_4; replace bO1_5 := BoxAt.ext hb bO1_5; replace bO1_6 := BoxAt.ext hb bO1_6; replace bO5_0 := BoxAt.ext hb bO5_0; replace bO9_0 := BoxAt.ext hb bO9_0; replace bO13_0 := BoxAt.ext hb bO13_0; replace bO17_0 := BoxAt.ext hb bO17_0; replace bO17_1 := BoxAt.ext hb bO17_1; have hs23 := hb.size; clear hb; have lt24 := bO21_0.lt
 refine ipl_nil ?_
 refine iqw_then ?_
 refine icw_seq ?_
 refine icw_seq ?_
 refine icw_plain ?_
 refine ipl_take (.agg #[.int .i64 o.p, .int .i64 o.f, .int .i64 o.lo, .int .i64 o.hi, .int .i64 o.nd, .int .i64 o.tn, .int .i64 o.sl]) rfl (by kernel_rfl) (by kernel_rfl) (by kernel_rfl) (ex_load rfl (by kernel_rfl) (ld24 (bO1_0.1) (bO1_1.1) (bO1_2.1) (bO1_3.1) (bO1_4.1) (bO1_5.1) (bO1_6.1))) ?_
 refine ipl_step rfl (by kernel_rfl) (by kernel_rfl) (by kernel_rfl) (sn_call (f := 81) (args := #[.agg #[.int .i64 o.p, .int .i64 o.f, .int .i64 o.lo, .int .i64 o.hi, .int .i64 o.nd, .int .i64 o.tn, .int .i64 o.sl]]) (by kernel_rfl) ((delays_c o _).mono ?_))
 rintro e w28 ⟨B25, rfl, hn26, hc27, hb⟩
 replace hE := hE.trans hb; replace bO1_0 := BoxAt.ext hb bO1_0; replace bO1_1 := BoxAt.ext hb bO1_1; replace bO1_2 := BoxAt.ext hb bO1_2; replace bO1_3 := BoxAt.ext hb bO1_3; replace bO1_4 := BoxAt.ext hb bO1_4; replace bO1_5 := BoxAt.ext hb bO1_5; replace bO1_6 := BoxAt.ext hb bO1_6; replace bO5_0 := BoxAt.ext hb bO5_0; replace bO9_0 := BoxAt.ext hb bO9_0; replace bO13_0 := BoxAt.ext hb bO13_0; replace bO17_0 := BoxAt.ext hb bO17_0; replace bO17_1 := BoxAt.ext hb bO17_1; replace bO21_0 := BoxAt.ext hb bO21_0; replace bO21_1 := BoxAt.ext hb bO21_1; have hs29 := hb.size; clear hb
 have lt30 := World.block_lt_of_cell? _ _ hc27
 refine ⟨_, rfl, ?_⟩
 refine ipl_nil ?_
 refine iqw_then ?_
 refine icw_block ?_
 refine icw_range (ps := [14]) (by kernel_rfl) (enters_of Try.func100 (by kernel_rfl) rfl) (delays_seq (X := fun k => k = O21) hok (fun h => (Nat.ne_of_gt (Nat.lt_of_lt_of_le lt24 hn26)) h) hc27) (Ext.refl _) (fun _ => rfl) (by kernel_rfl) (fun i W => w28.heap.size ≤ W.heap.size ∧ Ext w W ∧ BoxAt W O1 0 (.int .i64 o.p) ∧ BoxAt W O1 1 (.int .i64 o.f) ∧ BoxAt W O1 2 (.int .i64 o.lo) ∧ BoxAt W O1 3 (.int .i64 o.hi) ∧ BoxAt W O1 4 (.int .i64 o.nd) ∧ BoxAt W O1 5 (.int .i64 o.tn) ∧ BoxAt W O1 6 (.int .i64 o.sl) ∧ BoxAt W O5 0 (.func (.func 50) #[] #[.pointer (some ⟨Bo, 0, none⟩), .pointer (some ⟨Bs, 0, none⟩), .pointer (some ⟨Bl, 0, none⟩)]) ∧ BoxAt W O9 0 (.func (.func 54) #[] #[]) ∧ BoxAt W O13 0 (.func (.func 52) #[] #[]) ∧ BoxAt W O17 0 (.int .i64 0) ∧ BoxAt W O17 1 (.int .i64 0) ∧ W.cell? ⟨B25, 6, none⟩ = some (.int .i64 o.sl) ∧ BoxAt W O21 0 (.int .i64 ((Swath.sunF (Swath.sunJ o s lk) i).1 : Int)) ∧ BoxAt W O21 1 (.int .i64 ((Swath.sunF (Swath.sunJ o s lk) i).2 : Int))) (fun _ _ _ => False) (fun i A B h hm => by obtain ⟨hsz, hE, bO1_0, bO1_1, bO1_2, bO1_3, bO1_4, bO1_5, bO1_6, bO5_0, bO9_0, bO13_0, bO17_0, bO17_1, hc27, z0, z1⟩ := h; exact ⟨T hsz hm.size, hm.ext hE (T hs3 (T hs7 (T hs11 (T hs15 (T hs19 (T hs23 hs29)))))), hm.box bO1_0, hm.box bO1_1, hm.box bO1_2, hm.box bO1_3, hm.box bO1_4, hm.box bO1_5, hm.box bO1_6, hm.box bO5_0, hm.box bO9_0, hm.box bO13_0, hm.box bO17_0, hm.box bO17_1, hm.cell hc27, hm.box z0, hm.box z1⟩) (fun _ _ _ _ h _ => h.elim) ⟨Nat.le_refl _, hE, bO1_0, bO1_1, bO1_2, bO1_3, bO1_4, bO1_5, bO1_6, bO5_0, bO9_0, bO13_0, bO17_0, bO17_1, hc27, bO21_0, bO21_1⟩ ?_ ?_ ?_
 ·
  clear bO1_0 bO1_1 bO1_2 bO1_3 bO1_4 bO1_5 bO1_6 bO5_0 bO9_0 bO13_0 bO17_0 bO17_1 bO21_0 bO21_1 hc27 hE
  intro l33 k34 i w31 hii h _
  obtain ⟨hs32, hE, bO1_0, bO1_1, bO1_2, bO1_3, bO1_4, bO1_5, bO1_6, bO5_0, bO9_0, bO13_0, bO17_0, bO17_1, hc27, z0, z1⟩ := h
  refine icw_clean [4, 5, 6, 7, 9, 14] (ws' := [(4, .pointer (some ⟨O1, 0, none⟩)), (5, .pointer (some ⟨O5, 0, none⟩)), (6, .pointer (some ⟨O9, 0, none⟩)), (7, .pointer (some ⟨O13, 0, none⟩)), (9, .pointer (some ⟨O21, 0, none⟩)), (14, .int .i64 (-o.sl + ((i : Nat) : Int) : Int))]) (by kernel_rfl) (fun L => ?_)
  have hrk35 : RK w28.heap.size (fun k => k = O21) w31 w31 := RK.refl _ _ _
  refine icw_plain ?_
  refine ipl_take (.int .i64 (-o.sl + ((i : Nat) : Int) : Int)) rfl (by kernel_rfl) (by kernel_rfl) (by kernel_rfl) (by kernel_rfl) ?_
  refine ipl_nil ?_
  refine iqw_asg hrk35 (fun w37 hm36 => ?_)
  replace hE := hm36.ext hE (T hs3 (T hs7 (T hs11 (T hs15 (T hs19 (T hs23 hs29)))))); replace bO1_0 := hm36.box bO1_0; replace bO1_1 := hm36.box bO1_1; replace bO1_2 := hm36.box bO1_2; replace bO1_3 := hm36.box bO1_3; replace bO1_4 := hm36.box bO1_4; replace bO1_5 := hm36.box bO1_5; replace bO1_6 := hm36.box bO1_6; replace bO5_0 := hm36.box bO5_0; replace bO9_0 := hm36.box bO9_0; replace bO13_0 := hm36.box bO13_0; replace bO17_0 := hm36.box bO17_0; replace bO17_1 := hm36.box bO17_1; replace hc27 := hm36.cell hc27; replace z0 := hm36.box z0; replace z1 := hm36.box z1; have hs38 := hm36.size
  have hrk39 : RK w28.heap.size (fun k => k = O21) w37 w37 := RK.refl _ _ _
  refine icw_block ?_
  refine icw_seq ?_
  have hd9 : Globe.inB (-o.sl + ((i : Nat) : Int)) (-o.sl) o.sl = true := Globe.inB_t.2 ⟨by omega, by omega⟩
  rcases Nat.eq_zero_or_pos i with hi0 | hi0
  ·
   refine icw_plain ?_
   refine ipl_take (.func (.func 50) #[] #[.pointer (some ⟨Bo, 0, none⟩), .pointer (some ⟨Bs, 0, none⟩), .pointer (some ⟨Bl, 0, none⟩)]) rfl (by kernel_rfl) (by kernel_rfl) (by kernel_rfl) (ex_load rfl (by kernel_rfl) (ld86 (bO5_0.1))) ?_
   refine ipl_take (.int .i64 (-o.sl + ((i : Nat) : Int) : Int)) rfl (by kernel_rfl) (by kernel_rfl) (by kernel_rfl) (by kernel_rfl) ?_
   refine ipl_step rfl (by kernel_rfl) (by kernel_rfl) (by kernel_rfl) (sn_call (f := 50) (args := #[.int .i64 (-o.sl + ((i : Nat) : Int) : Int), .pointer (some ⟨Bo, 0, none⟩), .pointer (some ⟨Bs, 0, none⟩), .pointer (some ⟨Bl, 0, none⟩)]) (by kernel_rfl) ((svalue_c (-o.sl + ((i : Nat) : Int)) _ hS (e0.trans hE) hv hd9).mono ?_))
   rintro e w40 ⟨rfl, hb⟩
   replace hE := hE.trans hb; replace bO1_0 := BoxAt.ext hb bO1_0; replace bO1_1 := BoxAt.ext hb bO1_1; replace bO1_2 := BoxAt.ext hb bO1_2; replace bO1_3 := BoxAt.ext hb bO1_3; replace bO1_4 := BoxAt.ext hb bO1_4; replace bO1_5 := BoxAt.ext hb bO1_5; replace bO1_6 := BoxAt.ext hb bO1_6; replace bO5_0 := BoxAt.ext hb bO5_0; replace bO9_0 := BoxAt.ext hb bO9_0; replace bO13_0 := BoxAt.ext hb bO13_0; replace bO17_0 := BoxAt.ext hb bO17_0; replace bO17_1 := BoxAt.ext hb bO17_1; replace hc27 := hb.cell hc27; replace z0 := BoxAt.ext hb z0; replace z1 := BoxAt.ext hb z1; replace hrk39 := hrk39.ext hb; have hs41 := hb.size; clear hb
   refine ⟨_, rfl, ?_⟩
   refine ipl_step rfl (by kernel_rfl) (by kernel_rfl) (by kernel_rfl) (sn_new (us := #[.int .i64 0, .int .i64 0]) (t := 35) (by kernel_rfl) ?_)
   intro O42 X43 hzO42 hyO42 hb hbx; have ⟨bO42_0, bO42_1⟩ := bx2 hbx; clear hbx
   replace hE := hE.trans hb; replace bO1_0 := BoxAt.ext hb bO1_0; replace bO1_1 := BoxAt.ext hb bO1_1; replace bO1_2 := BoxAt.ext hb bO1_2; replace bO1_3 := BoxAt.ext hb bO1_3; replace bO1_4 := BoxAt.ext hb bO1_4; replace bO1_5 := BoxAt.ext hb bO1_5; replace bO1_6 := BoxAt.ext hb bO1_6; replace bO5_0 := BoxAt.ext hb bO5_0; replace bO9_0 := BoxAt.ext hb bO9_0; replace bO13_0 := BoxAt.ext hb bO13_0; replace bO17_0 := BoxAt.ext hb bO17_0; replace bO17_1 := BoxAt.ext hb bO17_1; replace hc27 := hb.cell hc27; replace z0 := BoxAt.ext hb z0; replace z1 := BoxAt.ext hb z1; replace hrk39 := hrk39.ext hb; have hs44 := hb.size; clear hb; have lt45 := bO42_0.lt
   refine ipl_put rfl (by kernel_rfl) (by kernel_rfl) (sn_set2 (O := O42) (j := 0) (v := .int .i64 ((Swath.sunJ o s lk i).1 : Int)) (v' := .int .i64 ((Swath.sunJ o s lk i).2 : Int)) (ex_store (p := .pointer (some ⟨O42, 0, none⟩)) (v := .agg #[.int .i64 ((Swath.sunJ o s lk i).1 : Int), .int .i64 ((Swath.sunJ o s lk i).2 : Int)]) rfl (by kernel_rfl) (by kernel_rfl) (st35 bO42_0.1 bO42_0.2 bO42_1.1 bO42_1.2)) bO42_0 bO42_1 ?_)
   intro X46 ho hv0 hv1 hk; replace hE := ho.ext hE (T (T hs3 (T hs7 (T hs11 (T hs15 (T hs19 (T hs23 (T hs29 (T hs32 (T hs38 hs41))))))))) (Nat.le_of_eq hzO42))
   have q9 := fun (j : Nat) (v : Value) (h : BoxAt _ O1 j v) => ho.box (Nat.ne_of_gt (Nat.lt_of_lt_of_le lt4 (T (T hs7 (T hs11 (T hs15 (T hs19 (T hs23 (T hs29 (T hs32 (T hs38 hs41)))))))) (Nat.le_of_eq hzO42)))) h
   replace bO1_0 := q9 _ _ bO1_0; replace bO1_1 := q9 _ _ bO1_1; replace bO1_2 := q9 _ _ bO1_2; replace bO1_3 := q9 _ _ bO1_3; replace bO1_4 := q9 _ _ bO1_4; replace bO1_5 := q9 _ _ bO1_5; replace bO1_6 := q9 _ _ bO1_6; clear q9; replace bO5_0 := ho.box (Nat.ne_of_gt (Nat.lt_of_lt_of_le lt8 (T (T hs11 (T hs15 (T hs19 (T hs23 (T hs29 (T hs32 (T hs38 hs41))))))) (Nat.le_of_eq hzO42)))) bO5_0; replace bO9_0 := ho.box (Nat.ne_of_gt (Nat.lt_of_lt_of_le lt12 (T (T hs15 (T hs19 (T hs23 (T hs29 (T hs32 (T hs38 hs41)))))) (Nat.le_of_eq hzO42)))) bO9_0; replace bO13_0 := ho.box (Nat.ne_of_gt (Nat.lt_of_lt_of_le lt16 (T (T hs19 (T hs23 (T hs29 (T hs32 (T hs38 hs41))))) (Nat.le_of_eq hzO42)))) bO13_0
   have q9 := fun (j : Nat) (v : Value) (h : BoxAt _ O17 j v) => ho.box (Nat.ne_of_gt (Nat.lt_of_lt_of_le lt20 (T (T hs23 (T hs29 (T hs32 (T hs38 hs41)))) (Nat.le_of_eq hzO42)))) h
   replace bO17_0 := q9 _ _ bO17_0; replace bO17_1 := q9 _ _ bO17_1; clear q9; replace hc27 := ho.cell (Nat.ne_of_gt (Nat.lt_of_lt_of_le lt30 (T (T hs32 (T hs38 hs41)) (Nat.le_of_eq hzO42)))) hc27; replace z0 := ho.box (Nat.ne_of_gt (Nat.lt_of_lt_of_le lt24 (T (T hs29 (T hs32 (T hs38 hs41))) (Nat.le_of_eq hzO42)))) z0; replace z1 := ho.box (Nat.ne_of_gt (Nat.lt_of_lt_of_le lt24 (T (T hs29 (T hs32 (T hs38 hs41))) (Nat.le_of_eq hzO42)))) z1; replace hrk39 := hrk39.turn ho (.inr (T hs41 (Nat.le_of_eq hzO42))); have hs47 : X43.heap.size ≤ X46.heap.size := Nat.le_of_eq ho.size.symm; clear ho hk bO42_0 bO42_1; have bO42_0 := hv0; clear hv0; have bO42_1 := hv1; clear hv1
   refine ipl_nil ?_
   refine iqw_then ?_
   refine icw_seq ?_
   refine icw_plain ?_
   refine ipl_take (.int .i64 (-o.sl + ((i : Nat) : Int) : Int)) rfl (by kernel_rfl) (by kernel_rfl) (by kernel_rfl) (by kernel_rfl) ?_
   refine ipl_take (.pointer (some ⟨O1, 6, none⟩)) rfl (by kernel_rfl) (by kernel_rfl) (by kernel_rfl) (by kernel_rfl) ?_
   refine ipl_take (.int .i64 o.sl) rfl (by kernel_rfl) (by kernel_rfl) (by kernel_rfl) (ex_load rfl (by kernel_rfl) (ld3 (bO1_6.1))) ?_
   refine ipl_take (.int .i64 (-o.sl : Int)) rfl (by kernel_rfl) (by kernel_rfl) (by kernel_rfl) (ev_int (ev_wrap (a := 0 - o.sl) (by kernel_rfl) (by omega) (by omega)) (by omega)) ?_
   refine ipl_take (.bool true) rfl (by kernel_rfl) (by kernel_rfl) (by kernel_rfl) (ev_eq (show _ = Result.ok (Next.value (Value.bool ((-o.sl + ((i : Nat) : Int) : Int) == (-o.sl : Int)))) _ from by kernel_rfl) (by omega)) ?_
   refine ipl_nil ?_
   refine iqw_then ?_
   refine icw_clean [6, 7, 9, 11, 22] (ws' := [(6, .pointer (some ⟨O9, 0, none⟩)), (7, .pointer (some ⟨O13, 0, none⟩)), (9, .pointer (some ⟨O21, 0, none⟩)), (11, .pointer (some ⟨O42, 0, none⟩)), (22, .bool true)]) (by kernel_rfl) (fun L => ?_)
   refine icw_t (by kernel_rfl) ?_
   refine icw_plain ?_
   refine ipl_take (.func (.func 54) #[] #[]) rfl (by kernel_rfl) (by kernel_rfl) (by kernel_rfl) (ex_load rfl (by kernel_rfl) (ld89 (bO9_0.1))) ?_
   refine ipl_take (.agg #[.int .i64 ((Swath.sunJ o s lk i).1 : Int), .int .i64 ((Swath.sunJ o s lk i).2 : Int)]) rfl (by kernel_rfl) (by kernel_rfl) (by kernel_rfl) (ex_load rfl (by kernel_rfl) (ld35 (bO42_0.1) (bO42_1.1))) ?_
   refine ipl_step rfl (by kernel_rfl) (by kernel_rfl) (by kernel_rfl) (sn_call (f := 54) (args := #[.agg #[.int .i64 ((Swath.sunJ o s lk i).1 : Int), .int .i64 ((Swath.sunJ o s lk i).2 : Int)]]) (by kernel_rfl) ((sfirst_c _ _ _).mono ?_))
   rintro e w48 ⟨rfl, hb⟩
   replace hE := hE.trans hb; replace bO1_0 := BoxAt.ext hb bO1_0; replace bO1_1 := BoxAt.ext hb bO1_1; replace bO1_2 := BoxAt.ext hb bO1_2; replace bO1_3 := BoxAt.ext hb bO1_3; replace bO1_4 := BoxAt.ext hb bO1_4; replace bO1_5 := BoxAt.ext hb bO1_5; replace bO1_6 := BoxAt.ext hb bO1_6; replace bO5_0 := BoxAt.ext hb bO5_0; replace bO9_0 := BoxAt.ext hb bO9_0; replace bO13_0 := BoxAt.ext hb bO13_0; replace bO17_0 := BoxAt.ext hb bO17_0; replace bO17_1 := BoxAt.ext hb bO17_1; replace hc27 := hb.cell hc27; replace z0 := BoxAt.ext hb z0; replace z1 := BoxAt.ext hb z1; replace hrk39 := hrk39.ext hb; replace bO42_0 := BoxAt.ext hb bO42_0; replace bO42_1 := BoxAt.ext hb bO42_1; have hs49 := hb.size; clear hb
   refine ⟨_, rfl, ?_⟩
   refine ipl_put rfl (by kernel_rfl) (by kernel_rfl) (sn_set2 (O := O21) (j := 0) (v := .int .i64 ((Swath.sunJ o s lk i).1 : Int)) (v' := .int .i64 ((Swath.sunJ o s lk i).2 : Int)) (ex_store (p := .pointer (some ⟨O21, 0, none⟩)) (v := .agg #[.int .i64 ((Swath.sunJ o s lk i).1 : Int), .int .i64 ((Swath.sunJ o s lk i).2 : Int)]) rfl (by kernel_rfl) (by kernel_rfl) (st35 z0.1 z0.2 z1.1 z1.2)) z0 z1 ?_)
   intro X50 ho hv0 hv1 hk; replace hE := ho.ext hE (T (T hs3 (T hs7 (T hs11 (T hs15 hs19)))) (Nat.le_of_eq hzO21))
   have q9 := fun (j : Nat) (v : Value) (h : BoxAt _ O1 j v) => ho.box (Nat.ne_of_gt (Nat.lt_of_lt_of_le lt4 (T (T hs7 (T hs11 (T hs15 hs19))) (Nat.le_of_eq hzO21)))) h
   replace bO1_0 := q9 _ _ bO1_0; replace bO1_1 := q9 _ _ bO1_1; replace bO1_2 := q9 _ _ bO1_2; replace bO1_3 := q9 _ _ bO1_3; replace bO1_4 := q9 _ _ bO1_4; replace bO1_5 := q9 _ _ bO1_5; replace bO1_6 := q9 _ _ bO1_6; clear q9; replace bO5_0 := ho.box (Nat.ne_of_gt (Nat.lt_of_lt_of_le lt8 (T (T hs11 (T hs15 hs19)) (Nat.le_of_eq hzO21)))) bO5_0; replace bO9_0 := ho.box (Nat.ne_of_gt (Nat.lt_of_lt_of_le lt12 (T (T hs15 hs19) (Nat.le_of_eq hzO21)))) bO9_0; replace bO13_0 := ho.box (Nat.ne_of_gt (Nat.lt_of_lt_of_le lt16 (T hs19 (Nat.le_of_eq hzO21)))) bO13_0
   have q9 := fun (j : Nat) (v : Value) (h : BoxAt _ O17 j v) => ho.box (Nat.ne_of_gt (Nat.lt_of_lt_of_le lt20 (Nat.le_of_eq hzO21))) h
   replace bO17_0 := q9 _ _ bO17_0; replace bO17_1 := q9 _ _ bO17_1; clear q9; replace hc27 := ho.cell (Nat.ne_of_lt (Nat.lt_of_lt_of_le lt24 hn26)) hc27; replace hrk39 := hrk39.turn ho (.inl (rfl))
   have q9 := fun (j : Nat) (v : Value) (h : BoxAt _ O42 j v) => ho.box (Nat.ne_of_lt (Nat.lt_of_lt_of_le lt24 (T (T hs29 (T hs32 (T hs38 hs41))) (Nat.le_of_eq hzO42)))) h
   replace bO42_0 := q9 _ _ bO42_0; replace bO42_1 := q9 _ _ bO42_1; clear q9; have hs51 : w48.heap.size ≤ X50.heap.size := Nat.le_of_eq ho.size.symm; clear ho hk z0 z1; have z0 := hv0; clear hv0; have z1 := hv1; clear hv1
   refine ipl_nil ?_
   refine iqw_block ?_
   exact iqw_next hrk39 ⟨(T hs32 (T hs38 (T hs41 (T hs44 (T hs47 (T hs49 hs51)))))), hE, bO1_0, bO1_1, bO1_2, bO1_3, bO1_4, bO1_5, bO1_6, bO5_0, bO9_0, bO13_0, bO17_0, bO17_1, hc27, (by rw [hi0]; rw [hi0] at z0; exact z0), (by rw [hi0]; rw [hi0] at z1; exact z1)⟩
  ·
   refine icw_plain ?_
   refine ipl_take (.func (.func 50) #[] #[.pointer (some ⟨Bo, 0, none⟩), .pointer (some ⟨Bs, 0, none⟩), .pointer (some ⟨Bl, 0, none⟩)]) rfl (by kernel_rfl) (by kernel_rfl) (by kernel_rfl) (ex_load rfl (by kernel_rfl) (ld86 (bO5_0.1))) ?_
   refine ipl_take (.int .i64 (-o.sl + ((i : Nat) : Int) : Int)) rfl (by kernel_rfl) (by kernel_rfl) (by kernel_rfl) (by kernel_rfl) ?_
   refine ipl_step rfl (by kernel_rfl) (by kernel_rfl) (by kernel_rfl) (sn_call (f := 50) (args := #[.int .i64 (-o.sl + ((i : Nat) : Int) : Int), .pointer (some ⟨Bo, 0, none⟩), .pointer (some ⟨Bs, 0, none⟩), .pointer (some ⟨Bl, 0, none⟩)]) (by kernel_rfl) ((svalue_c (-o.sl + ((i : Nat) : Int)) _ hS (e0.trans hE) hv hd9).mono ?_))
   rintro e w52 ⟨rfl, hb⟩
   replace hE := hE.trans hb; replace bO1_0 := BoxAt.ext hb bO1_0; replace bO1_1 := BoxAt.ext hb bO1_1; replace bO1_2 := BoxAt.ext hb bO1_2; replace bO1_3 := BoxAt.ext hb bO1_3; replace bO1_4 := BoxAt.ext hb bO1_4; replace bO1_5 := BoxAt.ext hb bO1_5; replace bO1_6 := BoxAt.ext hb bO1_6; replace bO5_0 := BoxAt.ext hb bO5_0; replace bO9_0 := BoxAt.ext hb bO9_0; replace bO13_0 := BoxAt.ext hb bO13_0; replace bO17_0 := BoxAt.ext hb bO17_0; replace bO17_1 := BoxAt.ext hb bO17_1; replace hc27 := hb.cell hc27; replace z0 := BoxAt.ext hb z0; replace z1 := BoxAt.ext hb z1; replace hrk39 := hrk39.ext hb; have hs53 := hb.size; clear hb
   refine ⟨_, rfl, ?_⟩
   refine ipl_step rfl (by kernel_rfl) (by kernel_rfl) (by kernel_rfl) (sn_new (us := #[.int .i64 0, .int .i64 0]) (t := 35) (by kernel_rfl) ?_)
   intro O54 X55 hzO54 hyO54 hb hbx; have ⟨bO54_0, bO54_1⟩ := bx2 hbx; clear hbx
   replace hE := hE.trans hb; replace bO1_0 := BoxAt.ext hb bO1_0; replace bO1_1 := BoxAt.ext hb bO1_1; replace bO1_2 := BoxAt.ext hb bO1_2; replace bO1_3 := BoxAt.ext hb bO1_3; replace bO1_4 := BoxAt.ext hb bO1_4; replace bO1_5 := BoxAt.ext hb bO1_5; replace bO1_6 := BoxAt.ext hb bO1_6; replace bO5_0 := BoxAt.ext hb bO5_0; replace bO9_0 := BoxAt.ext hb bO9_0; replace bO13_0 := BoxAt.ext hb bO13_0; replace bO17_0 := BoxAt.ext hb bO17_0; replace bO17_1 := BoxAt.ext hb bO17_1; replace hc27 := hb.cell hc27; replace z0 := BoxAt.ext hb z0; replace z1 := BoxAt.ext hb z1; replace hrk39 := hrk39.ext hb; have hs56 := hb.size; clear hb; have lt57 := bO54_0.lt
   refine ipl_put rfl (by kernel_rfl) (by kernel_rfl) (sn_set2 (O := O54) (j := 0) (v := .int .i64 ((Swath.sunJ o s lk i).1 : Int)) (v' := .int .i64 ((Swath.sunJ o s lk i).2 : Int)) (ex_store (p := .pointer (some ⟨O54, 0, none⟩)) (v := .agg #[.int .i64 ((Swath.sunJ o s lk i).1 : Int), .int .i64 ((Swath.sunJ o s lk i).2 : Int)]) rfl (by kernel_rfl) (by kernel_rfl) (st35 bO54_0.1 bO54_0.2 bO54_1.1 bO54_1.2)) bO54_0 bO54_1 ?_)
   intro X58 ho hv0 hv1 hk; replace hE := ho.ext hE (T (T hs3 (T hs7 (T hs11 (T hs15 (T hs19 (T hs23 (T hs29 (T hs32 (T hs38 hs53))))))))) (Nat.le_of_eq hzO54))
   have q9 := fun (j : Nat) (v : Value) (h : BoxAt _ O1 j v) => ho.box (Nat.ne_of_gt (Nat.lt_of_lt_of_le lt4 (T (T hs7 (T hs11 (T hs15 (T hs19 (T hs23 (T hs29 (T hs32 (T hs38 hs53)))))))) (Nat.le_of_eq hzO54)))) h
   replace bO1_0 := q9 _ _ bO1_0; replace bO1_1 := q9 _ _ bO1_1; replace bO1_2 := q9 _ _ bO1_2; replace bO1_3 := q9 _ _ bO1_3; replace bO1_4 := q9 _ _ bO1_4; replace bO1_5 := q9 _ _ bO1_5; replace bO1_6 := q9 _ _ bO1_6; clear q9; replace bO5_0 := ho.box (Nat.ne_of_gt (Nat.lt_of_lt_of_le lt8 (T (T hs11 (T hs15 (T hs19 (T hs23 (T hs29 (T hs32 (T hs38 hs53))))))) (Nat.le_of_eq hzO54)))) bO5_0; replace bO9_0 := ho.box (Nat.ne_of_gt (Nat.lt_of_lt_of_le lt12 (T (T hs15 (T hs19 (T hs23 (T hs29 (T hs32 (T hs38 hs53)))))) (Nat.le_of_eq hzO54)))) bO9_0; replace bO13_0 := ho.box (Nat.ne_of_gt (Nat.lt_of_lt_of_le lt16 (T (T hs19 (T hs23 (T hs29 (T hs32 (T hs38 hs53))))) (Nat.le_of_eq hzO54)))) bO13_0
   have q9 := fun (j : Nat) (v : Value) (h : BoxAt _ O17 j v) => ho.box (Nat.ne_of_gt (Nat.lt_of_lt_of_le lt20 (T (T hs23 (T hs29 (T hs32 (T hs38 hs53)))) (Nat.le_of_eq hzO54)))) h
   replace bO17_0 := q9 _ _ bO17_0; replace bO17_1 := q9 _ _ bO17_1; clear q9; replace hc27 := ho.cell (Nat.ne_of_gt (Nat.lt_of_lt_of_le lt30 (T (T hs32 (T hs38 hs53)) (Nat.le_of_eq hzO54)))) hc27; replace z0 := ho.box (Nat.ne_of_gt (Nat.lt_of_lt_of_le lt24 (T (T hs29 (T hs32 (T hs38 hs53))) (Nat.le_of_eq hzO54)))) z0; replace z1 := ho.box (Nat.ne_of_gt (Nat.lt_of_lt_of_le lt24 (T (T hs29 (T hs32 (T hs38 hs53))) (Nat.le_of_eq hzO54)))) z1; replace hrk39 := hrk39.turn ho (.inr (T hs53 (Nat.le_of_eq hzO54))); have hs59 : X55.heap.size ≤ X58.heap.size := Nat.le_of_eq ho.size.symm; clear ho hk bO54_0 bO54_1; have bO54_0 := hv0; clear hv0; have bO54_1 := hv1; clear hv1
   refine ipl_nil ?_
   refine iqw_then ?_
   refine icw_seq ?_
   refine icw_plain ?_
   refine ipl_take (.int .i64 (-o.sl + ((i : Nat) : Int) : Int)) rfl (by kernel_rfl) (by kernel_rfl) (by kernel_rfl) (by kernel_rfl) ?_
   refine ipl_take (.pointer (some ⟨O1, 6, none⟩)) rfl (by kernel_rfl) (by kernel_rfl) (by kernel_rfl) (by kernel_rfl) ?_
   refine ipl_take (.int .i64 o.sl) rfl (by kernel_rfl) (by kernel_rfl) (by kernel_rfl) (ex_load rfl (by kernel_rfl) (ld3 (bO1_6.1))) ?_
   refine ipl_take (.int .i64 (-o.sl : Int)) rfl (by kernel_rfl) (by kernel_rfl) (by kernel_rfl) (ev_int (ev_wrap (a := 0 - o.sl) (by kernel_rfl) (by omega) (by omega)) (by omega)) ?_
   refine ipl_take (.bool false) rfl (by kernel_rfl) (by kernel_rfl) (by kernel_rfl) (ev_neq (show _ = Result.ok (Next.value (Value.bool ((-o.sl + ((i : Nat) : Int) : Int) == (-o.sl : Int)))) _ from by kernel_rfl) (by omega)) ?_
   refine ipl_nil ?_
   refine iqw_then ?_
   refine icw_clean [6, 7, 9, 11, 22] (ws' := [(6, .pointer (some ⟨O9, 0, none⟩)), (7, .pointer (some ⟨O13, 0, none⟩)), (9, .pointer (some ⟨O21, 0, none⟩)), (11, .pointer (some ⟨O54, 0, none⟩)), (22, .bool false)]) (by kernel_rfl) (fun L => ?_)
   refine icw_f (by kernel_rfl) ?_
   refine icw_plain ?_
   refine ipl_take (.func (.func 52) #[] #[]) rfl (by kernel_rfl) (by kernel_rfl) (by kernel_rfl) (ex_load rfl (by kernel_rfl) (ld87 (bO13_0.1))) ?_
   refine ipl_take (.agg #[.int .i64 ((Swath.sunF (Swath.sunJ o s lk) i).1 : Int), .int .i64 ((Swath.sunF (Swath.sunJ o s lk) i).2 : Int)]) rfl (by kernel_rfl) (by kernel_rfl) (by kernel_rfl) (ex_load rfl (by kernel_rfl) (ld35 (z0.1) (z1.1))) ?_
   refine ipl_take (.agg #[.int .i64 ((Swath.sunJ o s lk i).1 : Int), .int .i64 ((Swath.sunJ o s lk i).2 : Int)]) rfl (by kernel_rfl) (by kernel_rfl) (by kernel_rfl) (ex_load rfl (by kernel_rfl) (ld35 (bO54_0.1) (bO54_1.1))) ?_
   refine ipl_step rfl (by kernel_rfl) (by kernel_rfl) (by kernel_rfl) (sn_call (f := 52) (args := #[.agg #[.int .i64 ((Swath.sunF (Swath.sunJ o s lk) i).1 : Int), .int .i64 ((Swath.sunF (Swath.sunJ o s lk) i).2 : Int)], .agg #[.int .i64 ((Swath.sunJ o s lk i).1 : Int), .int .i64 ((Swath.sunJ o s lk i).2 : Int)]]) (by kernel_rfl) ((wider_c ((Swath.sunF (Swath.sunJ o s lk) i).1) ((Swath.sunF (Swath.sunJ o s lk) i).2) ((Swath.sunJ o s lk i).1) ((Swath.sunJ o s lk i).2) _).mono ?_))
   rintro e w60 ⟨rfl, hb⟩
   replace hE := hE.trans hb; replace bO1_0 := BoxAt.ext hb bO1_0; replace bO1_1 := BoxAt.ext hb bO1_1; replace bO1_2 := BoxAt.ext hb bO1_2; replace bO1_3 := BoxAt.ext hb bO1_3; replace bO1_4 := BoxAt.ext hb bO1_4; replace bO1_5 := BoxAt.ext hb bO1_5; replace bO1_6 := BoxAt.ext hb bO1_6; replace bO5_0 := BoxAt.ext hb bO5_0; replace bO9_0 := BoxAt.ext hb bO9_0; replace bO13_0 := BoxAt.ext hb bO13_0; replace bO17_0 := BoxAt.ext hb bO17_0; replace bO17_1 := BoxAt.ext hb bO17_1; replace hc27 := hb.cell hc27; replace z0 := BoxAt.ext hb z0; replace z1 := BoxAt.ext hb z1; replace hrk39 := hrk39.ext hb; replace bO54_0 := BoxAt.ext hb bO54_0; replace bO54_1 := BoxAt.ext hb bO54_1; have hs61 := hb.size; clear hb
   refine ⟨_, rfl, ?_⟩
   refine ipl_put rfl (by kernel_rfl) (by kernel_rfl) (sn_set2 (O := O21) (j := 0) (v := .int .i64 (min ((Swath.sunF (Swath.sunJ o s lk) i).1) ((Swath.sunJ o s lk i).1) : Int)) (v' := .int .i64 (max ((Swath.sunF (Swath.sunJ o s lk) i).2) ((Swath.sunJ o s lk i).2) : Int)) (ex_store (p := .pointer (some ⟨O21, 0, none⟩)) (v := .agg #[.int .i64 (min ((Swath.sunF (Swath.sunJ o s lk) i).1) ((Swath.sunJ o s lk i).1) : Int), .int .i64 (max ((Swath.sunF (Swath.sunJ o s lk) i).2) ((Swath.sunJ o s lk i).2) : Int)]) rfl (by kernel_rfl) (by kernel_rfl) (st35 z0.1 z0.2 z1.1 z1.2)) z0 z1 ?_)
   intro X62 ho hv0 hv1 hk; replace hE := ho.ext hE (T (T hs3 (T hs7 (T hs11 (T hs15 hs19)))) (Nat.le_of_eq hzO21))
   have q9 := fun (j : Nat) (v : Value) (h : BoxAt _ O1 j v) => ho.box (Nat.ne_of_gt (Nat.lt_of_lt_of_le lt4 (T (T hs7 (T hs11 (T hs15 hs19))) (Nat.le_of_eq hzO21)))) h
   replace bO1_0 := q9 _ _ bO1_0; replace bO1_1 := q9 _ _ bO1_1; replace bO1_2 := q9 _ _ bO1_2; replace bO1_3 := q9 _ _ bO1_3; replace bO1_4 := q9 _ _ bO1_4; replace bO1_5 := q9 _ _ bO1_5; replace bO1_6 := q9 _ _ bO1_6; clear q9; replace bO5_0 := ho.box (Nat.ne_of_gt (Nat.lt_of_lt_of_le lt8 (T (T hs11 (T hs15 hs19)) (Nat.le_of_eq hzO21)))) bO5_0; replace bO9_0 := ho.box (Nat.ne_of_gt (Nat.lt_of_lt_of_le lt12 (T (T hs15 hs19) (Nat.le_of_eq hzO21)))) bO9_0; replace bO13_0 := ho.box (Nat.ne_of_gt (Nat.lt_of_lt_of_le lt16 (T hs19 (Nat.le_of_eq hzO21)))) bO13_0
   have q9 := fun (j : Nat) (v : Value) (h : BoxAt _ O17 j v) => ho.box (Nat.ne_of_gt (Nat.lt_of_lt_of_le lt20 (Nat.le_of_eq hzO21))) h
   replace bO17_0 := q9 _ _ bO17_0; replace bO17_1 := q9 _ _ bO17_1; clear q9; replace hc27 := ho.cell (Nat.ne_of_lt (Nat.lt_of_lt_of_le lt24 hn26)) hc27; replace hrk39 := hrk39.turn ho (.inl (rfl))
   have q9 := fun (j : Nat) (v : Value) (h : BoxAt _ O54 j v) => ho.box (Nat.ne_of_lt (Nat.lt_of_lt_of_le lt24 (T (T hs29 (T hs32 (T hs38 hs53))) (Nat.le_of_eq hzO54)))) h
   replace bO54_0 := q9 _ _ bO54_0; replace bO54_1 := q9 _ _ bO54_1; clear q9; have hs63 : w60.heap.size ≤ X62.heap.size := Nat.le_of_eq ho.size.symm; clear ho hk z0 z1; have z0 := hv0; clear hv0; have z1 := hv1; clear hv1
   refine ipl_nil ?_
   refine iqw_block ?_
   exact iqw_next hrk39 ⟨(T hs32 (T hs38 (T hs53 (T hs56 (T hs59 (T hs61 hs63)))))), hE, bO1_0, bO1_1, bO1_2, bO1_3, bO1_4, bO1_5, bO1_6, bO5_0, bO9_0, bO13_0, bO17_0, bO17_1, hc27, (by rw [Swath.sunF_succ hi0]; exact z0), (by rw [Swath.sunF_succ hi0]; exact z1)⟩
 ·
  clear bO1_0 bO1_1 bO1_2 bO1_3 bO1_4 bO1_5 bO1_6 bO5_0 bO9_0 bO13_0 bO17_0 bO17_1 bO21_0 bO21_1 hc27 hE
  intro D64 w65 hD68 hDl69 h hmk67
  obtain ⟨hs66, hE, bO1_0, bO1_1, bO1_2, bO1_3, bO1_4, bO1_5, bO1_6, bO5_0, bO9_0, bO13_0, bO17_0, bO17_1, hc27, z0, z1⟩ := h
  refine iqw_block ?_
  refine iqw_then ?_
  refine icw_seq ?_
  refine icw_plain ?_
  refine ipl_take (.agg #[.int .i64 ((Swath.sunF (Swath.sunJ o s lk) ((2 * o.sl + 1).toNat)).1 : Int), .int .i64 ((Swath.sunF (Swath.sunJ o s lk) ((2 * o.sl + 1).toNat)).2 : Int)]) rfl (by kernel_rfl) (by kernel_rfl) (by kernel_rfl) (ex_load rfl (by kernel_rfl) (ld35 (z0.1) (z1.1))) ?_
  refine ipl_put rfl (by kernel_rfl) (by kernel_rfl) (sn_set2 (O := O17) (j := 0) (v := .int .i64 ((Swath.sunF (Swath.sunJ o s lk) ((2 * o.sl + 1).toNat)).1 : Int)) (v' := .int .i64 ((Swath.sunF (Swath.sunJ o s lk) ((2 * o.sl + 1).toNat)).2 : Int)) (ex_store (p := .pointer (some ⟨O17, 0, none⟩)) (v := .agg #[.int .i64 ((Swath.sunF (Swath.sunJ o s lk) ((2 * o.sl + 1).toNat)).1 : Int), .int .i64 ((Swath.sunF (Swath.sunJ o s lk) ((2 * o.sl + 1).toNat)).2 : Int)]) rfl (by kernel_rfl) (by kernel_rfl) (st35 bO17_0.1 bO17_0.2 bO17_1.1 bO17_1.2)) bO17_0 bO17_1 ?_)
  intro X70 ho hv0 hv1 hk; replace hE := ho.ext hE (T (T hs3 (T hs7 (T hs11 hs15))) (Nat.le_of_eq hzO17))
  have q9 := fun (j : Nat) (v : Value) (h : BoxAt _ O1 j v) => ho.box (Nat.ne_of_gt (Nat.lt_of_lt_of_le lt4 (T (T hs7 (T hs11 hs15)) (Nat.le_of_eq hzO17)))) h
  replace bO1_0 := q9 _ _ bO1_0; replace bO1_1 := q9 _ _ bO1_1; replace bO1_2 := q9 _ _ bO1_2; replace bO1_3 := q9 _ _ bO1_3; replace bO1_4 := q9 _ _ bO1_4; replace bO1_5 := q9 _ _ bO1_5; replace bO1_6 := q9 _ _ bO1_6; clear q9; replace bO5_0 := ho.box (Nat.ne_of_gt (Nat.lt_of_lt_of_le lt8 (T (T hs11 hs15) (Nat.le_of_eq hzO17)))) bO5_0; replace bO9_0 := ho.box (Nat.ne_of_gt (Nat.lt_of_lt_of_le lt12 (T hs15 (Nat.le_of_eq hzO17)))) bO9_0; replace bO13_0 := ho.box (Nat.ne_of_gt (Nat.lt_of_lt_of_le lt16 (Nat.le_of_eq hzO17))) bO13_0; replace hc27 := ho.cell (Nat.ne_of_lt (Nat.lt_of_lt_of_le lt20 (T hs23 hn26))) hc27; replace z0 := ho.box (Nat.ne_of_lt (Nat.lt_of_lt_of_le lt20 (Nat.le_of_eq hzO21))) z0; replace z1 := ho.box (Nat.ne_of_lt (Nat.lt_of_lt_of_le lt20 (Nat.le_of_eq hzO21))) z1; replace hmk67 := mk_turn hmk67 ho; have hs71 : w65.heap.size ≤ X70.heap.size := Nat.le_of_eq ho.size.symm; clear ho hk bO17_0 bO17_1; have bO17_0 := hv0; clear hv0; have bO17_1 := hv1; clear hv1
  refine ipl_nil ?_
  refine iqw_then ?_
  refine icw_ret ?_
  refine iqw_ret w.heap.size [.agg #[.int .i64 ((Swath.sunF (Swath.sunJ o s lk) ((2 * o.sl + 1).toNat)).1 : Int), .int .i64 ((Swath.sunF (Swath.sunJ o s lk) ((2 * o.sl + 1).toNat)).2 : Int)]] rfl (marksC (T (T hs3 (T hs7 (T hs11 (T hs15 (T hs19 (T hs23 hs29)))))) hD68) hmk67 (fun _ h => by cases h)) (by simp) (fun W9 hm9 => ?_)
  replace hE := hm9.ext hE (Nat.le_refl _); replace bO1_0 := hm9.box bO1_0; replace bO1_1 := hm9.box bO1_1; replace bO1_2 := hm9.box bO1_2; replace bO1_3 := hm9.box bO1_3; replace bO1_4 := hm9.box bO1_4; replace bO1_5 := hm9.box bO1_5; replace bO1_6 := hm9.box bO1_6; replace bO5_0 := hm9.box bO5_0; replace bO9_0 := hm9.box bO9_0; replace bO13_0 := hm9.box bO13_0; replace hc27 := hm9.cell hc27; replace z0 := hm9.box z0; replace z1 := hm9.box z1; replace bO17_0 := hm9.box bO17_0; replace bO17_1 := hm9.box bO17_1; have hs72 := hm9.size
  refine ⟨⟨⟨_, by kernel_rfl, res_ld (ld35 (bO17_0.1) (bO17_1.1))⟩, trivial⟩, ?_⟩
  exact ⟨rfl, hE⟩
 · intro _ _ _ _ _ _ _ h _; exact h.elim
set_option maxRecDepth 1000000 in
set_option maxHeartbeats 4000000 in
theorem Suns_y {o : Orb} {s : Int × Int} {lk : Int} (w : World) (hv : Swath.shB o s lk = true) : Calls Try.prog 19 #[.agg #[.int .i64 o.p, .int .i64 o.f, .int .i64 o.lo, .int .i64 o.hi, .int .i64 o.nd, .int .i64 o.tn, .int .i64 o.sl], .agg #[.int .i64 s.1, .int .i64 s.2], .int .i64 lk] w fun e w' => e = .returned (.tuple #[.int .i64 (Swath.suns o s lk).1, .int .i64 (Swath.suns o s lk).2, .int .i64 0]) ∧ Ext w w' := by
 refine calls_cw 26 [(2, .int .i64 lk), (1, .agg #[.int .i64 s.1, .int .i64 s.2]), (0, .agg #[.int .i64 o.p, .int .i64 o.f, .int .i64 o.lo, .int .i64 o.hi, .int .i64 o.nd, .int .i64 o.tn, .int .i64 o.sl])] Try.func19 rfl Try.ntmps19 (by kernel_rfl) (by kernel_rfl) (fun L => ?_)
 have hE : Ext w w := Ext.refl w
 refine cw_seq ?_; refine cw_plain ?_
 refine pS (sn_new (us := #[.int .i64 o.p, .int .i64 o.f, .int .i64 o.lo, .int .i64 o.hi, .int .i64 o.nd, .int .i64 o.tn, .int .i64 o.sl]) (t := 24) (by kernel_rfl) ?_)
 intro O1 X2 hzO1 hyO1 hb hbx; have ⟨bO1_0, bO1_1, bO1_2, bO1_3, bO1_4, bO1_5, bO1_6⟩ := bx7 hbx; clear hbx
 replace hE := hE.trans hb; have hs3 := hb.size; clear hb; have lt4 := bO1_0.lt
 refine pS (sn_new (us := #[.int .i64 s.1, .int .i64 s.2]) (t := 26) (by kernel_rfl) ?_)
 intro O5 X6 hzO5 hyO5 hb hbx; have ⟨bO5_0, bO5_1⟩ := bx2 hbx; clear hbx
 replace hE := hE.trans hb; replace bO1_0 := BoxAt.ext hb bO1_0; replace bO1_1 := BoxAt.ext hb bO1_1; replace bO1_2 := BoxAt.ext hb bO1_2; replace bO1_3 := BoxAt.ext hb bO1_3; replace bO1_4 := BoxAt.ext hb bO1_4; replace bO1_5 := BoxAt.ext hb bO1_5; replace bO1_6 := BoxAt.ext hb bO1_6; have hs7 := hb.size; clear hb; have lt8 := bO5_0.lt
 refine pS (sn_new (us := #[.int .i64 lk]) (t := 3) (by kernel_rfl) ?_)
 intro O9 X10 hzO9 hyO9 hb hbx; have bO9_0 := bx1 hbx; clear hbx
 replace hE := hE.trans hb; replace bO1_0 := BoxAt.ext hb bO1_0; replace bO1_1 := BoxAt.ext hb bO1_1; replace bO1_2 := BoxAt.ext hb bO1_2; replace bO1_3 := BoxAt.ext hb bO1_3; replace bO1_4 := BoxAt.ext hb bO1_4; replace bO1_5 := BoxAt.ext hb bO1_5; replace bO1_6 := BoxAt.ext hb bO1_6; replace bO5_0 := BoxAt.ext hb bO5_0; replace bO5_1 := BoxAt.ext hb bO5_1; have hs11 := hb.size; clear hb; have lt12 := bO9_0.lt; refine pT (.int .i64 0) ?_; refine pT (.int .i64 0) ?_; refine pT (.int .i64 0) ?_; refine pl_nil ?_; refine qw_then ?_; refine cw_seq ?_; refine cw_seq ?_; have hX13 : Ext X10 X10 := Ext.refl _; refine cw_plain ?_
 refine pU (.agg #[.int .i64 o.p, .int .i64 o.f, .int .i64 o.lo, .int .i64 o.hi, .int .i64 o.nd, .int .i64 o.tn, .int .i64 o.sl]) (ex_load rfl (by kernel_rfl) (ld24 (bO1_0.1) (bO1_1.1) (bO1_2.1) (bO1_3.1) (bO1_4.1) (bO1_5.1) (bO1_6.1))) ?_
 refine pU (.agg #[.int .i64 s.1, .int .i64 s.2]) (ex_load rfl (by kernel_rfl) (ld26 (bO5_0.1) (bO5_1.1))) ?_
 refine pU (.int .i64 lk) (ex_load rfl (by kernel_rfl) (ld3 (bO9_0.1))) ?_
 refine pS (sn_call (f := 22) (args := #[.agg #[.int .i64 o.p, .int .i64 o.f, .int .i64 o.lo, .int .i64 o.hi, .int .i64 o.nd, .int .i64 o.tn, .int .i64 o.sl], .agg #[.int .i64 s.1, .int .i64 s.2], .int .i64 lk]) (by kernel_rfl) ((sValid_r (r := true) o s lk _ (hv)).mono ?_))
 rintro e w14 ⟨rfl, hb⟩
 replace hE := hE.trans hb; replace hX13 := hX13.trans hb; have hs15 := hb.size; clear hb
 refine ⟨_, rfl, ?_⟩
 refine pT (.bool false) ?_; refine pl_nil ?_; refine qw_then ?_
 refine cw_f (by kernel_rfl) ?_
 refine cw_skip ?_
 refine qw_then ?_; refine cw_seq ?_; refine cw_plain ?_; refine pT (.func (.func 50) #[] #[.pointer (some ⟨O1, 0, none⟩), .pointer (some ⟨O5, 0, none⟩), .pointer (some ⟨O9, 0, none⟩)]) ?_; refine pT (.func (.func 50) #[] #[.pointer (some ⟨O1, 0, none⟩), .pointer (some ⟨O5, 0, none⟩), .pointer (some ⟨O9, 0, none⟩)]) ?_; refine pl_nil ?_; refine qw_then ?_; refine cC2 3 9 (fun L => ?_); refine cw_seq ?_; refine cw_plain ?_; refine pT (.func (.func 52) #[] #[]) ?_; refine pl_nil ?_; refine qw_then ?_; refine cw_seq ?_; refine cw_plain ?_
 refine pU (.agg #[.int .i64 o.p, .int .i64 o.f, .int .i64 o.lo, .int .i64 o.hi, .int .i64 o.nd, .int .i64 o.tn, .int .i64 o.sl]) (ex_load rfl (by kernel_rfl) (ld24 ((BoxAt.ext hX13 bO1_0).1) ((BoxAt.ext hX13 bO1_1).1) ((BoxAt.ext hX13 bO1_2).1) ((BoxAt.ext hX13 bO1_3).1) ((BoxAt.ext hX13 bO1_4).1) ((BoxAt.ext hX13 bO1_5).1) ((BoxAt.ext hX13 bO1_6).1))) ?_
 refine pT (.func (.func 50) #[] #[.pointer (some ⟨O1, 0, none⟩), .pointer (some ⟨O5, 0, none⟩), .pointer (some ⟨O9, 0, none⟩)]) ?_; refine pT (.func (.func 52) #[] #[]) ?_
 refine pS (sn_call (f := 53) (args := #[.agg #[.int .i64 o.p, .int .i64 o.f, .int .i64 o.lo, .int .i64 o.hi, .int .i64 o.nd, .int .i64 o.tn, .int .i64 o.sl], .func (.func 50) #[] #[.pointer (some ⟨O1, 0, none⟩), .pointer (some ⟨O5, 0, none⟩), .pointer (some ⟨O9, 0, none⟩)], .func (.func 54) #[] #[], .func (.func 52) #[] #[]]) (by kernel_rfl) ((foldN_c _ ⟨⟨(BoxAt.ext hX13 bO1_0).1, (BoxAt.ext hX13 bO1_1).1, (BoxAt.ext hX13 bO1_2).1, (BoxAt.ext hX13 bO1_3).1, (BoxAt.ext hX13 bO1_4).1, (BoxAt.ext hX13 bO1_5).1, (BoxAt.ext hX13 bO1_6).1⟩, (BoxAt.ext hX13 bO5_0).1, (BoxAt.ext hX13 bO5_1).1, (BoxAt.ext hX13 bO9_0).1⟩ (Ext.refl _) hv).mono ?_))
 rintro e w16 ⟨rfl, hb⟩
 replace hE := hE.trans hb; replace hX13 := hX13.trans hb; have hs17 := hb.size; clear hb
 refine ⟨_, rfl, ?_⟩
 refine pS (sn_new (us := #[.int .i64 0, .int .i64 0]) (t := 35) (by kernel_rfl) ?_)
 intro O18 X19 hzO18 hyO18 hb hbx; have ⟨bO18_0, bO18_1⟩ := bx2 hbx; clear hbx
 replace hE := hE.trans hb; replace hX13 := hX13.trans hb; have hs20 := hb.size; clear hb; have lt21 := bO18_0.lt
 refine pP (sn_set2 (O := O18) (j := 0) (v := .int .i64 ((Swath.suns o s lk).1 : Int)) (v' := .int .i64 ((Swath.suns o s lk).2 : Int)) (ex_store (p := .pointer (some ⟨O18, 0, none⟩)) (v := .agg #[.int .i64 ((Swath.suns o s lk).1 : Int), .int .i64 ((Swath.suns o s lk).2 : Int)]) rfl (by kernel_rfl) (by kernel_rfl) (st35 bO18_0.1 bO18_0.2 bO18_1.1 bO18_1.2)) bO18_0 bO18_1 ?_)
 intro X22 ho hv0 hv1 hk; replace hE := ho.ext hE (T (T hs3 (T hs7 (T hs11 (T hs15 hs17)))) (Nat.le_of_eq hzO18)); replace hX13 := ho.ext hX13 (T (T hs15 hs17) (Nat.le_of_eq hzO18)); have hs23 : X19.heap.size ≤ X22.heap.size := Nat.le_of_eq ho.size.symm; clear ho hk bO18_0 bO18_1; have bO18_0 := hv0; clear hv0; have bO18_1 := hv1; clear hv1; refine pl_nil ?_; refine qw_then ?_; refine cw_seq ?_
 refine cw_draw [(some 22, [11], []), (some 23, [22], [0]), (some 24, [11], []), (some 25, [24], [2]), (some 6, [23], [1, 0, 1]), (some 7, [25], [3, 4, 0, 1, 2, 3, 4]), (some 8, [], [5, 0, 1, 2, 3, 4, 5])] (fun w' => w'.cell? ⟨O18, 0, none⟩ = some (.int .i64 ((Swath.suns o s lk).1 : Int)) ∧ w'.cell? ⟨O18, 1, none⟩ = some (.int .i64 ((Swath.suns o s lk).2 : Int))) (by kernel_rfl) (by kernel_rfl) (by kernel_rfl) (by kernel_rfl) ((calm_then calm_body)) (⟨bO18_0.1, bO18_1.1⟩) (fun ops Q X24 hb hL hR hK => ?_)
 replace hE := hE.trans hb; replace hX13 := hX13.trans hb; replace bO18_0 := BoxAt.ext hb bO18_0; replace bO18_1 := BoxAt.ext hb bO18_1; have hs25 := hb.size; clear hb
 refine wT 0 (.pointer (some ⟨O18, 0, none⟩)) hR (fun w _ => by kernel_rfl) (⟨bO18_0.1, bO18_1.1⟩) ?_
 refine wT 1 (.int .i64 ((Swath.suns o s lk).1 : Int)) hR (fun w hS => ex_load rfl (by kernel_rfl) (ld3 (hS.1))) (⟨bO18_0.1, bO18_1.1⟩) ?_
 refine wT 2 (.pointer (some ⟨O18, 1, none⟩)) hR (fun w _ => by kernel_rfl) (⟨bO18_0.1, bO18_1.1⟩) ?_
 refine wT 3 (.int .i64 ((Swath.suns o s lk).2 : Int)) hR (fun w hS => ex_load rfl (by kernel_rfl) (ld3 (hS.2))) (⟨bO18_0.1, bO18_1.1⟩) ?_
 refine wT 4 (.int .i64 ((Swath.suns o s lk).1 : Int)) hR (fun w _ => by kernel_rfl) (⟨bO18_0.1, bO18_1.1⟩) ?_
 refine wT 5 (.int .i64 ((Swath.suns o s lk).2 : Int)) hR (fun w _ => by kernel_rfl) (⟨bO18_0.1, bO18_1.1⟩) ?_
 refine wT 6 (.int .i64 0) hR (fun w _ => by kernel_rfl) (⟨bO18_0.1, bO18_1.1⟩) ?_
 refine wd_end hL hR hK (by kernel_rfl) ?_
 refine qw_then ?_; refine cC3 6 7 8 (fun L => ?_)
 refine cw_ret ?_
 refine qw_ret [.int .i64 ((Swath.suns o s lk).1 : Int), .int .i64 ((Swath.suns o s lk).2 : Int), .int .i64 0] rfl ⟨(by kernel_rfl), (by kernel_rfl), (by kernel_rfl), trivial⟩ ?_
 exact ⟨rfl, hE⟩
set_option maxRecDepth 1000000 in
set_option maxHeartbeats 4000000 in
theorem Suns_n {o : Orb} {s : Int × Int} {lk : Int} (w : World) (hv : Swath.shB o s lk = false) : Calls Try.prog 19 #[.agg #[.int .i64 o.p, .int .i64 o.f, .int .i64 o.lo, .int .i64 o.hi, .int .i64 o.nd, .int .i64 o.tn, .int .i64 o.sl], .agg #[.int .i64 s.1, .int .i64 s.2], .int .i64 lk] w fun e w' => e = .returned (.tuple #[.int .i64 0, .int .i64 0, .int .i64 80]) ∧ Ext w w' := by
 refine calls_cw 26 [(2, .int .i64 lk), (1, .agg #[.int .i64 s.1, .int .i64 s.2]), (0, .agg #[.int .i64 o.p, .int .i64 o.f, .int .i64 o.lo, .int .i64 o.hi, .int .i64 o.nd, .int .i64 o.tn, .int .i64 o.sl])] Try.func19 rfl Try.ntmps19 (by kernel_rfl) (by kernel_rfl) (fun L => ?_)
 have hE : Ext w w := Ext.refl w
 refine cw_seq ?_; refine cw_plain ?_
 refine pS (sn_new (us := #[.int .i64 o.p, .int .i64 o.f, .int .i64 o.lo, .int .i64 o.hi, .int .i64 o.nd, .int .i64 o.tn, .int .i64 o.sl]) (t := 24) (by kernel_rfl) ?_)
 intro O1 X2 hzO1 hyO1 hb hbx; have ⟨bO1_0, bO1_1, bO1_2, bO1_3, bO1_4, bO1_5, bO1_6⟩ := bx7 hbx; clear hbx
 replace hE := hE.trans hb; have hs3 := hb.size; clear hb; have lt4 := bO1_0.lt
 refine pS (sn_new (us := #[.int .i64 s.1, .int .i64 s.2]) (t := 26) (by kernel_rfl) ?_)
 intro O5 X6 hzO5 hyO5 hb hbx; have ⟨bO5_0, bO5_1⟩ := bx2 hbx; clear hbx
 replace hE := hE.trans hb; replace bO1_0 := BoxAt.ext hb bO1_0; replace bO1_1 := BoxAt.ext hb bO1_1; replace bO1_2 := BoxAt.ext hb bO1_2; replace bO1_3 := BoxAt.ext hb bO1_3; replace bO1_4 := BoxAt.ext hb bO1_4; replace bO1_5 := BoxAt.ext hb bO1_5; replace bO1_6 := BoxAt.ext hb bO1_6; have hs7 := hb.size; clear hb; have lt8 := bO5_0.lt
 refine pS (sn_new (us := #[.int .i64 lk]) (t := 3) (by kernel_rfl) ?_)
 intro O9 X10 hzO9 hyO9 hb hbx; have bO9_0 := bx1 hbx; clear hbx
 replace hE := hE.trans hb; replace bO1_0 := BoxAt.ext hb bO1_0; replace bO1_1 := BoxAt.ext hb bO1_1; replace bO1_2 := BoxAt.ext hb bO1_2; replace bO1_3 := BoxAt.ext hb bO1_3; replace bO1_4 := BoxAt.ext hb bO1_4; replace bO1_5 := BoxAt.ext hb bO1_5; replace bO1_6 := BoxAt.ext hb bO1_6; replace bO5_0 := BoxAt.ext hb bO5_0; replace bO5_1 := BoxAt.ext hb bO5_1; have hs11 := hb.size; clear hb; have lt12 := bO9_0.lt; refine pT (.int .i64 0) ?_; refine pT (.int .i64 0) ?_; refine pT (.int .i64 0) ?_; refine pl_nil ?_; refine qw_then ?_; refine cw_seq ?_; refine cw_seq ?_; have hX13 : Ext X10 X10 := Ext.refl _; refine cw_plain ?_
 refine pU (.agg #[.int .i64 o.p, .int .i64 o.f, .int .i64 o.lo, .int .i64 o.hi, .int .i64 o.nd, .int .i64 o.tn, .int .i64 o.sl]) (ex_load rfl (by kernel_rfl) (ld24 (bO1_0.1) (bO1_1.1) (bO1_2.1) (bO1_3.1) (bO1_4.1) (bO1_5.1) (bO1_6.1))) ?_
 refine pU (.agg #[.int .i64 s.1, .int .i64 s.2]) (ex_load rfl (by kernel_rfl) (ld26 (bO5_0.1) (bO5_1.1))) ?_
 refine pU (.int .i64 lk) (ex_load rfl (by kernel_rfl) (ld3 (bO9_0.1))) ?_
 refine pS (sn_call (f := 22) (args := #[.agg #[.int .i64 o.p, .int .i64 o.f, .int .i64 o.lo, .int .i64 o.hi, .int .i64 o.nd, .int .i64 o.tn, .int .i64 o.sl], .agg #[.int .i64 s.1, .int .i64 s.2], .int .i64 lk]) (by kernel_rfl) ((sValid_r (r := false) o s lk _ (hv)).mono ?_))
 rintro e w14 ⟨rfl, hb⟩
 replace hE := hE.trans hb; replace hX13 := hX13.trans hb; have hs15 := hb.size; clear hb
 refine ⟨_, rfl, ?_⟩
 refine pT (.bool true) ?_; refine pl_nil ?_; refine qw_then ?_
 refine cw_t (by kernel_rfl) ?_
 refine cw_seq ?_; refine cw_plain ?_; refine pT (.int .i64 0) ?_; refine pT (.int .i64 0) ?_; refine pT (.int .i64 80) ?_; refine pl_nil ?_; refine qw_then ?_
 refine cw_ret ?_
 refine qw_then_ret ?_
 refine qw_ret [.int .i64 0, .int .i64 0, .int .i64 80] rfl ⟨(by kernel_rfl), (by kernel_rfl), (by kernel_rfl), trivial⟩ ?_
 exact ⟨rfl, hE⟩

end Go.Proofs.Ytdjjkhefdalokaa

/- Contracts of package swath: Best. -/
namespace Go.Proofs.Ytdjjkhefdalokaa
open Go.RowKit

theorem Valid_e9 {v r : Bool} {w0 : World} {a : Option Addr} {l : List Int} {n : Nat} (c : Nat) (w : World) (h : AA w0 a l n v) (hE : Ext w0 w) (hr : v = r) : Calls Try.prog 33 #[.agg #[.slice a n c]] w fun e w' => e = .returned (.bool r) ∧ Ext w w' := hr ▸ Valid_e c w h hE
theorem Shows_r {w1 : World} {o : Orb} {s : Int × Int} {lk : Int} {a : Option Addr} {l : List Int} {n : Nat} {v r : Bool} (c : Nat) (w : World) (hA : AA w1 a l n v) (e1 : Ext w1 w) (hr : Swath.showsB o s lk l = r) : Calls Try.prog 24 #[.agg #[.int .i64 o.p, .int .i64 o.f, .int .i64 o.lo, .int .i64 o.hi, .int .i64 o.nd, .int .i64 o.tn, .int .i64 o.sl], .agg #[.int .i64 s.1, .int .i64 s.2], .int .i64 lk, .agg #[.slice a n c]] w fun e w' => e = .returned (.bool r) ∧ Ext w w' := hr ▸ Shows_c c w hA e1
set_option maxRecDepth 1000000 in
set_option maxHeartbeats 4000000 in
theorem Best_y {w1 : World} {o : Orb} {sp : Int × Int} {mi : Int} {W : Nat} {a : Option Addr} {l : List Int} {n : Nat} (c : Nat) (w : World) (hA : AA w1 a l n true) (e1 : Ext w1 w) (g1 : Orb.ok o = true) (g2 : Swath.spB sp 300 = true) (g3 : Globe.inB mi 1 60 = true) (g4 : Globe.inB ((W : Nat) : Int) 0 4 = true) :
  Calls Try.prog 26 #[.agg #[.int .i64 o.p, .int .i64 o.f, .int .i64 o.lo, .int .i64 o.hi, .int .i64 o.nd, .int .i64 o.tn, .int .i64 o.sl], .agg #[.int .i64 sp.1, .int .i64 sp.2], .int .i64 mi, .int .i64 ((W : Nat) : Int), .agg #[.slice a n c]] w fun e w' => e = .returned (.tuple #[.agg #[.int .i64 (Swath.best o sp mi W l).1.1, .int .i64 (Swath.best o sp mi W l).1.2], .int .i64 (Swath.best o sp mi W l).2.1, .bool (Swath.best o sp mi W l).2.2, .int .i64 0]) ∧ Ext w w' := by
 have q2 := Swath.spB_t.1 g2
 have q3 := Globe.inB_t.1 g3
 have q4 := Globe.inB_t.1 g4
 obtain ⟨MM, hMM⟩ : ∃ m, m = 2 * W + 2 := ⟨_, rfl⟩
 refine calls_cw 89 [(4, .agg #[.slice a n c]), (3, .int .i64 (((W : Nat) : Int) : Int)), (2, .int .i64 mi), (1, .agg #[.int .i64 sp.1, .int .i64 sp.2]), (0, .agg #[.int .i64 o.p, .int .i64 o.f, .int .i64 o.lo, .int .i64 o.hi, .int .i64 o.nd, .int .i64 o.tn, .int .i64 o.sl])] Try.func26 rfl Try.ntmps26 (by kernel_rfl) (by kernel_rfl) (fun L => ?_)
 have hE : Ext w w := Ext.refl w
 refine cw_seq ?_; refine cw_plain ?_
 refine pS (sn_new (us := #[.int .i64 o.p, .int .i64 o.f, .int .i64 o.lo, .int .i64 o.hi, .int .i64 o.nd, .int .i64 o.tn, .int .i64 o.sl]) (t := 24) (by kernel_rfl) ?_)
 intro O1 X2 hzO1 hyO1 hb hbx; have ⟨bO1_0, bO1_1, bO1_2, bO1_3, bO1_4, bO1_5, bO1_6⟩ := bx7 hbx; clear hbx
 replace hE := hE.trans hb; have hs3 := hb.size; clear hb; have lt4 := bO1_0.lt
 refine pS (sn_new (us := #[.int .i64 sp.1, .int .i64 sp.2]) (t := 26) (by kernel_rfl) ?_)
 intro O5 X6 hzO5 hyO5 hb hbx; have ⟨bO5_0, bO5_1⟩ := bx2 hbx; clear hbx
 replace hE := hE.trans hb; replace bO1_0 := BoxAt.ext hb bO1_0; replace bO1_1 := BoxAt.ext hb bO1_1; replace bO1_2 := BoxAt.ext hb bO1_2; replace bO1_3 := BoxAt.ext hb bO1_3; replace bO1_4 := BoxAt.ext hb bO1_4; replace bO1_5 := BoxAt.ext hb bO1_5; replace bO1_6 := BoxAt.ext hb bO1_6; have hs7 := hb.size; clear hb; have lt8 := bO5_0.lt
 refine pS (sn_new (us := #[.slice a n c]) (t := 31) (by kernel_rfl) ?_)
 intro O9 X10 hzO9 hyO9 hb hbx; have bO9_0 := bx1 hbx; clear hbx
 replace hE := hE.trans hb; replace bO1_0 := BoxAt.ext hb bO1_0; replace bO1_1 := BoxAt.ext hb bO1_1; replace bO1_2 := BoxAt.ext hb bO1_2; replace bO1_3 := BoxAt.ext hb bO1_3; replace bO1_4 := BoxAt.ext hb bO1_4; replace bO1_5 := BoxAt.ext hb bO1_5; replace bO1_6 := BoxAt.ext hb bO1_6; replace bO5_0 := BoxAt.ext hb bO5_0; replace bO5_1 := BoxAt.ext hb bO5_1; have hs11 := hb.size; clear hb; have lt12 := bO9_0.lt
 refine pS (sn_new (us := #[.int .i64 0, .int .i64 0]) (t := 26) (by kernel_rfl) ?_)
 intro O13 X14 hzO13 hyO13 hb hbx; have ⟨bO13_0, bO13_1⟩ := bx2 hbx; clear hbx
 replace hE := hE.trans hb; replace bO1_0 := BoxAt.ext hb bO1_0; replace bO1_1 := BoxAt.ext hb bO1_1; replace bO1_2 := BoxAt.ext hb bO1_2; replace bO1_3 := BoxAt.ext hb bO1_3; replace bO1_4 := BoxAt.ext hb bO1_4; replace bO1_5 := BoxAt.ext hb bO1_5; replace bO1_6 := BoxAt.ext hb bO1_6; replace bO5_0 := BoxAt.ext hb bO5_0; replace bO5_1 := BoxAt.ext hb bO5_1; replace bO9_0 := BoxAt.ext hb bO9_0; have hs15 := hb.size; clear hb; have lt16 := bO13_0.lt; refine pT (.int .i64 0) ?_; refine pT (.bool false) ?_; refine pT (.int .i64 0) ?_; refine pl_nil ?_; refine qw_then ?_
 refine cw_scope ?_
 refine cw_seq ?_; refine cw_seq ?_; have hX17 : Ext X14 X14 := Ext.refl _; refine cw_plain ?_
 refine pU (.agg #[.int .i64 o.p, .int .i64 o.f, .int .i64 o.lo, .int .i64 o.hi, .int .i64 o.nd, .int .i64 o.tn, .int .i64 o.sl]) (ex_load rfl (by kernel_rfl) (ld24 (bO1_0.1) (bO1_1.1) (bO1_2.1) (bO1_3.1) (bO1_4.1) (bO1_5.1) (bO1_6.1))) ?_
 refine pS (sn_call (f := 56) (args := #[.agg #[.int .i64 o.p, .int .i64 o.f, .int .i64 o.lo, .int .i64 o.hi, .int .i64 o.nd, .int .i64 o.tn, .int .i64 o.sl]]) (by kernel_rfl) ((oValid_r (r := true) _ (g1)).mono ?_))
 rintro e w18 ⟨rfl, hb⟩
 replace hE := hE.trans hb; replace hX17 := hX17.trans hb; have hs19 := hb.size; clear hb
 refine ⟨_, rfl, ?_⟩
 refine pT (.bool false) ?_; refine pT (.bool false) ?_
 refine pU (.agg #[.int .i64 sp.1, .int .i64 sp.2]) (ex_load rfl (by kernel_rfl) (ld26 ((BoxAt.ext hX17 bO5_0).1) ((BoxAt.ext hX17 bO5_1).1))) ?_
 refine pS (sn_call (f := 57) (args := #[.agg #[.int .i64 sp.1, .int .i64 sp.2], .int .i64 300]) (by kernel_rfl) ((isSpell_r (r := true) sp 300 _ (g2)).mono ?_))
 rintro e w20 ⟨rfl, hb⟩
 replace hE := hE.trans hb; replace hX17 := hX17.trans hb; have hs21 := hb.size; clear hb
 refine ⟨_, rfl, ?_⟩
 refine pT (.bool false) ?_; refine pT (.bool false) ?_; refine pT (.bool false) ?_; refine pT (.int .i64 mi) ?_
 refine pS (sn_call (f := 43) (args := #[.int .i64 mi, .int .i64 1, .int .i64 60]) (by kernel_rfl) ((swath_isIn_r (r := true) mi 1 60 _ (g3)).mono ?_))
 rintro e w22 ⟨rfl, hb⟩
 replace hE := hE.trans hb; replace hX17 := hX17.trans hb; have hs23 := hb.size; clear hb
 refine ⟨_, rfl, ?_⟩
 refine pT (.bool false) ?_; refine pT (.bool false) ?_; refine pT (.bool false) ?_; refine pT (.int .i64 (((W : Nat) : Int) : Int)) ?_
 refine pS (sn_call (f := 43) (args := #[.int .i64 (((W : Nat) : Int) : Int), .int .i64 0, .int .i64 4]) (by kernel_rfl) ((swath_isIn_r (r := true) (((W : Nat) : Int)) 0 4 _ (g4)).mono ?_))
 rintro e w24 ⟨rfl, hb⟩
 replace hE := hE.trans hb; replace hX17 := hX17.trans hb; have hs25 := hb.size; clear hb
 refine ⟨_, rfl, ?_⟩
 refine pT (.bool false) ?_; refine pT (.bool false) ?_; refine pT (.bool false) ?_
 refine pU (.agg #[.slice a n c]) (ex_load rfl (by kernel_rfl) (ld31 ((BoxAt.ext hX17 bO9_0).1))) ?_
 refine pS (sn_call (f := 33) (args := #[.agg #[.slice a n c]]) (by kernel_rfl) ((Valid_e _ _ hA (e1.trans hE)).mono ?_))
 rintro e w26 ⟨rfl, hb⟩
 replace hE := hE.trans hb; replace hX17 := hX17.trans hb; have hs27 := hb.size; clear hb
 refine ⟨_, rfl, ?_⟩
 refine pT (.bool false) ?_; refine pT (.bool false) ?_; refine pl_nil ?_; refine qw_then ?_; refine cC7 2 3 5 6 9 10 41 (fun L => ?_)
 refine cw_f (by kernel_rfl) ?_
 refine cw_skip ?_
 refine qw_then ?_; refine cw_seq ?_
 refine cw_label ?_
 refine qw_then ?_; refine cw_seq ?_; refine cw_seq ?_; refine cw_plain ?_; refine pT (.pointer (some ⟨O5, 0, none⟩)) ?_
 refine pU (.int .i64 sp.1) (ex_load rfl (by kernel_rfl) (ld3 ((BoxAt.ext hX17 bO5_0).1))) ?_
 refine pU (.int .i64 (sp.1 + ((0 : Nat) : Int) : Int)) (ev_int (show _ = Result.ok (Next.value (Value.int .i64 sp.1)) _ from by kernel_rfl) (by omega)) ?_
 refine pl_nil ?_; refine qw_then ?_
 refine cw_block ?_
 have hX28 : Ext w26 w26 := Ext.refl _
 refine cw_loop [2, 3, 5, 6, 9, 10, 14] (fun ws' wr m => ∃ j : Nat, ws' = [(2, .int .i64 mi), (3, .int .i64 (((W : Nat) : Int) : Int)), (5, .pointer (some ⟨O1, 0, none⟩)), (6, .pointer (some ⟨O5, 0, none⟩)), (9, .pointer (some ⟨O9, 0, none⟩)), (10, .pointer (some ⟨O13, 0, none⟩)), (14, .int .i64 (sp.1 + ((j : Nat) : Int) : Int))] ∧ m = Swath.starts sp mi - j ∧ w26.heap.size ≤ wr.heap.size ∧ Ext w wr ∧ Ext w26 wr ∧ Swath.NoHit (Swath.bestP o sp mi W l) (j * (2 * W + 2)) ∧ j ≤ Swath.starts sp mi) (ws0 := [(2, .int .i64 mi), (3, .int .i64 (((W : Nat) : Int) : Int)), (5, .pointer (some ⟨O1, 0, none⟩)), (6, .pointer (some ⟨O5, 0, none⟩)), (9, .pointer (some ⟨O9, 0, none⟩)), (10, .pointer (some ⟨O13, 0, none⟩)), (14, .int .i64 (sp.1 + ((0 : Nat) : Int) : Int))]) (by kernel_rfl) _ ⟨0, rfl, rfl, Nat.le_refl _, hE, hX28, (Swath.NoHit.le (Swath.noHit_0 _) (Nat.zero_mul _)), Nat.zero_le _⟩ ?_
 clear hE hX28
 rintro m31 L ws w30 ⟨j, rfl, rfl, hs29, hE, hX28, hitJ, hj⟩
 have hst : Swath.starts sp mi = (sp.2 - sp.1 - mi + 1).toNat := rfl
 have hkk := hitJ
 by_cases hlt : j < Swath.starts sp mi
 ·
  refine cw_seq ?_; refine cw_seq ?_; refine cw_plain ?_; refine pT (.int .i64 (sp.1 + ((j : Nat) : Int) : Int)) ?_; refine pT (.int .i64 mi) ?_
  refine pU (.int .i64 ((sp.1 + ((j : Nat) : Int)) + mi : Int)) (ev_wrap (by kernel_rfl) (by omega) (by omega)) ?_
  refine pT (.pointer (some ⟨O5, 1, none⟩)) ?_
  refine pU (.int .i64 sp.2) (ex_load rfl (by kernel_rfl) (ld3 ((BoxAt.ext (hX17.trans hX28) bO5_1).1))) ?_
  refine pU (.bool true) (ev_dec (show _ = Result.ok (Next.value (Value.bool (decide (((sp.1 + ((j : Nat) : Int)) + mi : Int) ≤ (sp.2 : Int))))) _ from by kernel_rfl) (by omega)) ?_
  refine pl_nil ?_; refine qw_then ?_
  refine cw_t (by kernel_rfl) ?_
  refine cw_skip ?_
  refine qw_then ?_; refine cw_seq ?_
  refine cw_block ?_
  refine cw_seq ?_; refine cw_plain ?_; refine pT (.int .i64 (sp.1 + ((j : Nat) : Int) : Int)) ?_; refine pT (.int .i64 (sp.1 + ((j : Nat) : Int) : Int)) ?_; refine pT (.int .i64 mi) ?_
  refine pU (.int .i64 ((sp.1 + ((j : Nat) : Int)) + mi : Int)) (ev_wrap (by kernel_rfl) (by omega) (by omega)) ?_
  refine pT (.agg #[.int .i64 (sp.1 + ((j : Nat) : Int) : Int), .int .i64 ((sp.1 + ((j : Nat) : Int)) + mi : Int)]) ?_
  refine pS (sn_new (us := #[.int .i64 0, .int .i64 0]) (t := 26) (by kernel_rfl) ?_)
  intro O32 X33 hzO32 hyO32 hb hbx; have ⟨bO32_0, bO32_1⟩ := bx2 hbx; clear hbx
  replace hE := hE.trans hb; replace hX28 := hX28.trans hb; have hs34 := hb.size; clear hb; have lt35 := bO32_0.lt
  refine pP (sn_set2 (O := O32) (j := 0) (v := .int .i64 (sp.1 + ((j : Nat) : Int) : Int)) (v' := .int .i64 ((sp.1 + ((j : Nat) : Int)) + mi : Int)) (ex_store (p := .pointer (some ⟨O32, 0, none⟩)) (v := .agg #[.int .i64 (sp.1 + ((j : Nat) : Int) : Int), .int .i64 ((sp.1 + ((j : Nat) : Int)) + mi : Int)]) rfl (by kernel_rfl) (by kernel_rfl) (st26 bO32_0.1 bO32_0.2 bO32_1.1 bO32_1.2)) bO32_0 bO32_1 ?_)
  intro X36 ho hv0 hv1 hk; replace hE := ho.ext hE (T (T hs3 (T hs7 (T hs11 (T hs15 (T hs19 (T hs21 (T hs23 (T hs25 (T hs27 hs29))))))))) (Nat.le_of_eq hzO32)); replace hX28 := ho.ext hX28 (T hs29 (Nat.le_of_eq hzO32)); have hs37 : X33.heap.size ≤ X36.heap.size := Nat.le_of_eq ho.size.symm; clear ho hk bO32_0 bO32_1; have bO32_0 := hv0; clear hv0; have bO32_1 := hv1; clear hv1; refine pl_nil ?_; refine qw_then ?_; refine cC8 2 3 5 6 9 10 14 15 (fun L => ?_); refine cw_seq ?_; refine cw_plain ?_; refine pT (.int .i64 (((W : Nat) : Int) : Int)) ?_
  refine pU (.int .i64 (((W + 1 : Nat) : Int) : Int)) (ev_wrap (by kernel_rfl) (by omega) (by omega)) ?_
  refine pT (.int .i64 0) ?_; refine pl_nil ?_; refine qw_then ?_
  refine cw_block ?_
  have hX38 : Ext X36 X36 := Ext.refl _
  refine cw_loop [2, 3, 5, 6, 9, 10, 14, 15, 59, 60] (fun ws' wr m => ∃ k : Nat, ws' = [(2, .int .i64 mi), (3, .int .i64 (((W : Nat) : Int) : Int)), (5, .pointer (some ⟨O1, 0, none⟩)), (6, .pointer (some ⟨O5, 0, none⟩)), (9, .pointer (some ⟨O9, 0, none⟩)), (10, .pointer (some ⟨O13, 0, none⟩)), (14, .int .i64 (sp.1 + ((j : Nat) : Int) : Int)), (15, .pointer (some ⟨O32, 0, none⟩)), (59, .int .i64 (((W + 1 : Nat) : Int) : Int)), (60, .int .i64 (((k : Nat) : Int) : Int))] ∧ m = W + 1 - k ∧ X36.heap.size ≤ wr.heap.size ∧ Ext w wr ∧ Ext X36 wr ∧ Swath.NoHit (Swath.bestP o sp mi W l) (j * (2 * W + 2) + 2 * k) ∧ k ≤ W + 1) (ws0 := [(2, .int .i64 mi), (3, .int .i64 (((W : Nat) : Int) : Int)), (5, .pointer (some ⟨O1, 0, none⟩)), (6, .pointer (some ⟨O5, 0, none⟩)), (9, .pointer (some ⟨O9, 0, none⟩)), (10, .pointer (some ⟨O13, 0, none⟩)), (14, .int .i64 (sp.1 + ((j : Nat) : Int) : Int)), (15, .pointer (some ⟨O32, 0, none⟩)), (59, .int .i64 (((W + 1 : Nat) : Int) : Int)), (60, .int .i64 0)]) (by kernel_rfl) _ ⟨0, rfl, rfl, Nat.le_refl _, hE, hX38, (Swath.NoHit.le hitJ (by omega)), by omega⟩ ?_
  clear hE hX38
  rintro m41 L ws w40 ⟨k, rfl, rfl, hs39, hE, hX38, hitK, hk⟩
  by_cases hlt : k < W + 1
  ·
   refine cw_seq ?_; refine cw_plain ?_
   refine pU (.bool true) (ev_dec (show _ = Result.ok (Next.value (Value.bool (decide ((((k : Nat) : Int) : Int) < (((W + 1 : Nat) : Int) : Int))))) _ from by kernel_rfl) (by omega)) ?_
   refine pl_nil ?_; refine qw_then ?_; refine cw_seq ?_
   refine cw_t (by kernel_rfl) ?_
   refine cw_skip ?_
   refine qw_then ?_; refine cw_seq ?_
   refine cw_block ?_
   refine cw_seq ?_; refine cw_plain ?_; refine pT (.int .i64 (((k : Nat) : Int) : Int)) ?_; refine pT (.int .i64 (((k : Nat) : Int) : Int)) ?_; refine pl_nil ?_; refine qw_then ?_; refine cw_seq ?_; refine cw_plain ?_; refine pT (.int .i64 (((k : Nat) : Int) : Int)) ?_; refine pT (.int .i64 (((k : Nat) : Int) : Int)) ?_
   refine pU (.int .i64 (-(((k : Nat) : Int)) : Int)) (ev_int (ev_wrap (a := 0 - (((k : Nat) : Int))) (by kernel_rfl) (by omega) (by omega)) (by omega)) ?_
   refine pT (.agg #[.int .i64 (((k : Nat) : Int) : Int), .int .i64 (-(((k : Nat) : Int)) : Int)]) ?_; refine pT (.int .i64 0) ?_; refine pl_nil ?_; refine qw_then ?_; refine cC13 2 3 5 6 9 10 14 15 16 59 60 66 67 (fun L => ?_)
   refine cw_block ?_
   have hX42 : Ext w40 w40 := Ext.refl _
   refine cw_loop [2, 3, 5, 6, 9, 10, 14, 15, 16, 59, 60, 66, 67] (fun ws' wr m => ∃ q : Nat, ws' = [(2, .int .i64 mi), (3, .int .i64 (((W : Nat) : Int) : Int)), (5, .pointer (some ⟨O1, 0, none⟩)), (6, .pointer (some ⟨O5, 0, none⟩)), (9, .pointer (some ⟨O9, 0, none⟩)), (10, .pointer (some ⟨O13, 0, none⟩)), (14, .int .i64 (sp.1 + ((j : Nat) : Int) : Int)), (15, .pointer (some ⟨O32, 0, none⟩)), (16, .int .i64 (((k : Nat) : Int) : Int)), (59, .int .i64 (((W + 1 : Nat) : Int) : Int)), (60, .int .i64 (((k : Nat) : Int) : Int)), (66, .agg #[.int .i64 (((k : Nat) : Int) : Int), .int .i64 (-(((k : Nat) : Int)) : Int)]), (67, .int .i64 (((q : Nat) : Int) : Int))] ∧ m = 2 - q ∧ w40.heap.size ≤ wr.heap.size ∧ Ext w wr ∧ Ext w40 wr ∧ Swath.NoHit (Swath.bestP o sp mi W l) (j * (2 * W + 2) + 2 * k + q) ∧ q ≤ 2) (ws0 := [(2, .int .i64 mi), (3, .int .i64 (((W : Nat) : Int) : Int)), (5, .pointer (some ⟨O1, 0, none⟩)), (6, .pointer (some ⟨O5, 0, none⟩)), (9, .pointer (some ⟨O9, 0, none⟩)), (10, .pointer (some ⟨O13, 0, none⟩)), (14, .int .i64 (sp.1 + ((j : Nat) : Int) : Int)), (15, .pointer (some ⟨O32, 0, none⟩)), (16, .int .i64 (((k : Nat) : Int) : Int)), (59, .int .i64 (((W + 1 : Nat) : Int) : Int)), (60, .int .i64 (((k : Nat) : Int) : Int)), (66, .agg #[.int .i64 (((k : Nat) : Int) : Int), .int .i64 (-(((k : Nat) : Int)) : Int)]), (67, .int .i64 0)]) (by kernel_rfl) _ ⟨0, rfl, rfl, Nat.le_refl _, hE, hX42, (Swath.NoHit.le hitK (by omega)), by omega⟩ ?_
   clear hE hX42
   rintro m45 L ws w44 ⟨q, rfl, rfl, hs43, hE, hX42, hitQ, hq⟩
   rcases (show q = 0 ∨ q = 1 ∨ q = 2 by omega) with rfl | rfl | rfl
   ·
    refine cw_seq ?_; refine cw_plain ?_; refine pT (.bool true) ?_; refine pl_nil ?_; refine qw_then ?_; refine cw_seq ?_
    refine cw_t (by kernel_rfl) ?_
    refine cw_skip ?_
    refine qw_then ?_; refine cw_seq ?_
    refine cw_block ?_
    refine cw_seq ?_; refine cw_plain ?_; refine pT (.int .i64 (((k : Nat) : Int) : Int)) ?_; refine pT (.int .i64 (((k : Nat) : Int) : Int)) ?_; refine pl_nil ?_; refine qw_then ?_; refine cC14 2 3 5 6 9 10 14 15 16 18 59 60 66 67 (fun L => ?_); refine cw_seq ?_; refine cw_seq ?_
    have hlk : Swath.lkQ (2 * k + 0) = ((k : Nat) : Int) := Swath.lk_even k
    have hfs := Swath.best_at (o := o) (sp := sp) (mi := mi) (wd := W) (l := l) (j := j) (x := 2 * k + 0) (by omega)
    rw [hlk] at hfs
    rcases Bool.eq_false_or_eq_true (Swath.showsB o (sp.1 + ((j : Nat) : Int), sp.1 + ((j : Nat) : Int) + mi) (((k : Nat) : Int)) l) with hsh | hsh
    ·
     have hbest := Swath.best_hit (o := o) (sp := sp) (mi := mi) (wd := W) (l := l) (j := j) (x := 2 * k + 0) (by omega) (by omega) (Swath.NoHit.le hitQ (by omega)) (by rw [hlk]; exact hsh)
     rw [hlk] at hbest
     refine cw_plain ?_
     have hY46 := hX28.trans hX38
     have hY47 := hX17.trans hY46
     refine pU (.agg #[.int .i64 o.p, .int .i64 o.f, .int .i64 o.lo, .int .i64 o.hi, .int .i64 o.nd, .int .i64 o.tn, .int .i64 o.sl]) (ex_load rfl (by kernel_rfl) (ld24 ((BoxAt.ext (hY47.trans hX42) bO1_0).1) ((BoxAt.ext (hY47.trans hX42) bO1_1).1) ((BoxAt.ext (hY47.trans hX42) bO1_2).1) ((BoxAt.ext (hY47.trans hX42) bO1_3).1) ((BoxAt.ext (hY47.trans hX42) bO1_4).1) ((BoxAt.ext (hY47.trans hX42) bO1_5).1) ((BoxAt.ext (hY47.trans hX42) bO1_6).1))) ?_
     refine pU (.agg #[.int .i64 (sp.1 + ((j : Nat) : Int) : Int), .int .i64 ((sp.1 + ((j : Nat) : Int)) + mi : Int)]) (ex_load rfl (by kernel_rfl) (ld26 ((BoxAt.ext (hX38.trans hX42) bO32_0).1) ((BoxAt.ext (hX38.trans hX42) bO32_1).1))) ?_
     refine pT (.int .i64 (((k : Nat) : Int) : Int)) ?_
     refine pU (.agg #[.slice a n c]) (ex_load rfl (by kernel_rfl) (ld31 ((BoxAt.ext (hY47.trans hX42) bO9_0).1))) ?_
     refine pS (sn_call (f := 24) (args := #[.agg #[.int .i64 o.p, .int .i64 o.f, .int .i64 o.lo, .int .i64 o.hi, .int .i64 o.nd, .int .i64 o.tn, .int .i64 o.sl], .agg #[.int .i64 (sp.1 + ((j : Nat) : Int) : Int), .int .i64 ((sp.1 + ((j : Nat) : Int)) + mi : Int)], .int .i64 (((k : Nat) : Int) : Int), .agg #[.slice a n c]]) (by kernel_rfl) ((Shows_r (s := (sp.1 + ((j : Nat) : Int), sp.1 + ((j : Nat) : Int) + mi)) (r := true) _ _ hA (e1.trans hE) hsh).mono ?_))
     rintro e w48 ⟨rfl, hb⟩
     replace hE := hE.trans hb; replace hX42 := hX42.trans hb; have hs49 := hb.size; clear hb
     refine ⟨_, rfl, ?_⟩
     refine pl_nil ?_; refine qw_then ?_; refine cC15 2 3 5 6 9 10 14 15 16 18 59 60 66 67 74 (fun L => ?_)
     refine cw_t (by kernel_rfl) ?_
     refine cw_seq ?_; refine cw_plain ?_
     refine pU (.agg #[.int .i64 (sp.1 + ((j : Nat) : Int) : Int), .int .i64 ((sp.1 + ((j : Nat) : Int)) + mi : Int)]) (ex_load rfl (by kernel_rfl) (ld26 ((BoxAt.ext (hX38.trans hX42) bO32_0).1) ((BoxAt.ext (hX38.trans hX42) bO32_1).1))) ?_
     refine pT (.int .i64 (((k : Nat) : Int) : Int)) ?_
     have bO1_t51 := (BoxAt.ext (hY47.trans hX42) bO1_0)
     have bO1_t52 := (BoxAt.ext (hY47.trans hX42) bO1_1)
     have bO1_t53 := (BoxAt.ext (hY47.trans hX42) bO1_2)
     have bO1_t54 := (BoxAt.ext (hY47.trans hX42) bO1_3)
     have bO1_t55 := (BoxAt.ext (hY47.trans hX42) bO1_4)
     have bO1_t56 := (BoxAt.ext (hY47.trans hX42) bO1_5)
     have bO1_t57 := (BoxAt.ext (hY47.trans hX42) bO1_6)
     have bO5_t58 := (BoxAt.ext (hY47.trans hX42) bO5_0)
     have bO5_t59 := (BoxAt.ext (hY47.trans hX42) bO5_1)
     have bO9_t60 := (BoxAt.ext (hY47.trans hX42) bO9_0)
     have bO13_t61 := (BoxAt.ext (hY47.trans hX42) bO13_0)
     have bO13_t62 := (BoxAt.ext (hY47.trans hX42) bO13_1)
     have bO32_t63 := (BoxAt.ext (hX38.trans hX42) bO32_0)
     have bO32_t64 := (BoxAt.ext (hX38.trans hX42) bO32_1)
     refine pP (sn_set2 (O := O13) (j := 0) (v := .int .i64 (sp.1 + ((j : Nat) : Int) : Int)) (v' := .int .i64 ((sp.1 + ((j : Nat) : Int)) + mi : Int)) (ex_store (p := .pointer (some ⟨O13, 0, none⟩)) (v := .agg #[.int .i64 (sp.1 + ((j : Nat) : Int) : Int), .int .i64 ((sp.1 + ((j : Nat) : Int)) + mi : Int)]) rfl (by kernel_rfl) (by kernel_rfl) (st26 bO13_t61.1 bO13_t61.2 bO13_t62.1 bO13_t62.2)) bO13_t61 bO13_t62 ?_)
     intro X50 ho hv0 hv1 hk; replace hE := ho.ext hE (T (T hs3 (T hs7 hs11)) (Nat.le_of_eq hzO13))
     have q9 := fun (j : Nat) (v : Value) (h : BoxAt _ O1 j v) => ho.box (Nat.ne_of_gt (Nat.lt_of_lt_of_le lt4 (T (T hs7 hs11) (Nat.le_of_eq hzO13)))) h
     replace bO1_t51 := q9 _ _ bO1_t51; replace bO1_t52 := q9 _ _ bO1_t52; replace bO1_t53 := q9 _ _ bO1_t53; replace bO1_t54 := q9 _ _ bO1_t54; replace bO1_t55 := q9 _ _ bO1_t55; replace bO1_t56 := q9 _ _ bO1_t56; replace bO1_t57 := q9 _ _ bO1_t57; clear q9
     have q9 := fun (j : Nat) (v : Value) (h : BoxAt _ O5 j v) => ho.box (Nat.ne_of_gt (Nat.lt_of_lt_of_le lt8 (T hs11 (Nat.le_of_eq hzO13)))) h
     replace bO5_t58 := q9 _ _ bO5_t58; replace bO5_t59 := q9 _ _ bO5_t59; clear q9; replace bO9_t60 := ho.box (Nat.ne_of_gt (Nat.lt_of_lt_of_le lt12 (Nat.le_of_eq hzO13))) bO9_t60
     have q9 := fun (j : Nat) (v : Value) (h : BoxAt _ O32 j v) => ho.box (Nat.ne_of_lt (Nat.lt_of_lt_of_le lt16 (T (T hs19 (T hs21 (T hs23 (T hs25 (T hs27 hs29))))) (Nat.le_of_eq hzO32)))) h
     replace bO32_t63 := q9 _ _ bO32_t63; replace bO32_t64 := q9 _ _ bO32_t64; clear q9; have hs65 : w48.heap.size ≤ X50.heap.size := Nat.le_of_eq ho.size.symm; clear ho hk bO13_t61 bO13_t62; have bO13_t61 := hv0; clear hv0; have bO13_t62 := hv1; clear hv1; refine pT (.int .i64 (((k : Nat) : Int) : Int)) ?_; refine pT (.bool true) ?_; refine pT (.int .i64 0) ?_; refine pl_nil ?_; refine qw_then ?_; refine cC4 10 11 12 13 (fun L => ?_)
     refine cw_ret ?_
     refine qw_then_ret ?_
     refine qw_block_ret ?_
     refine qw_then_ret ?_
     refine qw_then_ret ?_
     refine qw_block_ret ?_
     refine qw_block_ret ?_
     refine qw_then_ret ?_
     refine qw_then_ret ?_
     refine qw_block_ret ?_
     refine qw_block_ret ?_
     refine qw_then_ret ?_
     refine qw_then_ret ?_
     refine qw_block_ret ?_
     refine qw_then_ret ?_
     refine qw_scope_ret ?_
     refine qw_ret [.agg #[.int .i64 (sp.1 + ((j : Nat) : Int) : Int), .int .i64 ((sp.1 + ((j : Nat) : Int)) + mi : Int)], .int .i64 (((k : Nat) : Int) : Int), .bool true, .int .i64 0] rfl ⟨⟨_, by kernel_rfl, res_ld (ld26 (bO13_t61.1) (bO13_t62.1))⟩, (by kernel_rfl), (by kernel_rfl), (by kernel_rfl), trivial⟩ ?_
     exact ⟨by rw [hbest]; rfl, hE⟩
    ·
     have hit9 := Swath.NoHit.next (Swath.NoHit.le hitQ (show j * (2 * W + 2) + (2 * k + 0) = _ by omega)) (hfs.trans hsh)
     refine cw_plain ?_
     have hY66 := hX28.trans hX38
     have hY67 := hX17.trans hY66
     refine pU (.agg #[.int .i64 o.p, .int .i64 o.f, .int .i64 o.lo, .int .i64 o.hi, .int .i64 o.nd, .int .i64 o.tn, .int .i64 o.sl]) (ex_load rfl (by kernel_rfl) (ld24 ((BoxAt.ext (hY67.trans hX42) bO1_0).1) ((BoxAt.ext (hY67.trans hX42) bO1_1).1) ((BoxAt.ext (hY67.trans hX42) bO1_2).1) ((BoxAt.ext (hY67.trans hX42) bO1_3).1) ((BoxAt.ext (hY67.trans hX42) bO1_4).1) ((BoxAt.ext (hY67.trans hX42) bO1_5).1) ((BoxAt.ext (hY67.trans hX42) bO1_6).1))) ?_
     refine pU (.agg #[.int .i64 (sp.1 + ((j : Nat) : Int) : Int), .int .i64 ((sp.1 + ((j : Nat) : Int)) + mi : Int)]) (ex_load rfl (by kernel_rfl) (ld26 ((BoxAt.ext (hX38.trans hX42) bO32_0).1) ((BoxAt.ext (hX38.trans hX42) bO32_1).1))) ?_
     refine pT (.int .i64 (((k : Nat) : Int) : Int)) ?_
     refine pU (.agg #[.slice a n c]) (ex_load rfl (by kernel_rfl) (ld31 ((BoxAt.ext (hY67.trans hX42) bO9_0).1))) ?_
     refine pS (sn_call (f := 24) (args := #[.agg #[.int .i64 o.p, .int .i64 o.f, .int .i64 o.lo, .int .i64 o.hi, .int .i64 o.nd, .int .i64 o.tn, .int .i64 o.sl], .agg #[.int .i64 (sp.1 + ((j : Nat) : Int) : Int), .int .i64 ((sp.1 + ((j : Nat) : Int)) + mi : Int)], .int .i64 (((k : Nat) : Int) : Int), .agg #[.slice a n c]]) (by kernel_rfl) ((Shows_r (s := (sp.1 + ((j : Nat) : Int), sp.1 + ((j : Nat) : Int) + mi)) (r := false) _ _ hA (e1.trans hE) hsh).mono ?_))
     rintro e w68 ⟨rfl, hb⟩
     replace hE := hE.trans hb; replace hX42 := hX42.trans hb; have hs69 := hb.size; clear hb
     refine ⟨_, rfl, ?_⟩
     refine pl_nil ?_; refine qw_then ?_; refine cC15 2 3 5 6 9 10 14 15 16 18 59 60 66 67 74 (fun L => ?_)
     refine cw_f (by kernel_rfl) ?_
     refine cw_skip ?_
     refine qw_then ?_; refine cC14 2 3 5 6 9 10 14 15 16 18 59 60 66 67 (fun L => ?_); refine cw_seq ?_; refine cw_plain ?_; refine pT (.int .i64 (((k : Nat) : Int) : Int)) ?_; refine pT (.int .i64 (((W : Nat) : Int) : Int)) ?_
     by_cases hc70 : (((k : Nat) : Int) : Int) = (((W : Nat) : Int) : Int)
     ·
      refine pU (.bool true) (ev_eq (show _ = Result.ok (Next.value (Value.bool ((((k : Nat) : Int) : Int) == (((W : Nat) : Int) : Int)))) _ from by kernel_rfl) (hc70)) ?_
      refine pT (.bool true) ?_; refine pT (.int .i64 (((k : Nat) : Int) : Int)) ?_; refine pT (.int .i64 (((k : Nat) : Int) : Int)) ?_
      refine pU (.int .i64 (-(((k : Nat) : Int)) : Int)) (ev_int (ev_wrap (a := 0 - (((k : Nat) : Int))) (by kernel_rfl) (by omega) (by omega)) (by omega)) ?_
      by_cases hc71 : (((k : Nat) : Int) : Int) = (-(((k : Nat) : Int)) : Int)
      ·
       have hk0 : k = 0 := by omega
       have hW0 : W = 0 := by omega
       have hit8 : Swath.NoHit (Swath.bestP o sp mi W l) (j * (2 * W + 2) + 2) := by
        subst hk0 hW0
        refine Swath.NoHit.le (Swath.NoHit.next hit9 ?_) (by omega)
        have h8 := Swath.best_at (o := o) (sp := sp) (mi := mi) (wd := 0) (l := l) (j := j) (x := 1) (by omega)
        rw [show Swath.lkQ 1 = ((0 : Nat) : Int) by decide] at h8
        exact (show Swath.bestP o sp mi 0 l (j * (2 * 0 + 2) + (2 * 0 + 0) + 1) = _ from h8).trans hsh
       refine pU (.bool true) (ev_eq (show _ = Result.ok (Next.value (Value.bool ((((k : Nat) : Int) : Int) == (-(((k : Nat) : Int)) : Int)))) _ from by kernel_rfl) (hc71)) ?_
       refine pT (.bool true) ?_; refine pl_nil ?_; refine qw_then ?_; refine cC14 2 3 5 6 9 10 14 15 16 59 60 66 67 85 (fun L => ?_)
       refine cw_t (by kernel_rfl) ?_
       refine cw_exit ?_
       refine qw_block_on (by decide) ?_
       refine qw_then_exit ?_
       refine qw_then_exit ?_
       refine qw_block_on (by decide) ?_
       refine qw_block_on (by decide) ?_
       refine qw_then_exit ?_
       refine qw_then_exit ?_
       refine qw_block_on (by decide) ?_
       refine qw_block_out ?_
       refine qw_then ?_; refine cw_plain ?_; refine pT (.int .i64 (sp.1 + ((j : Nat) : Int) : Int)) ?_
       refine pU (.int .i64 (sp.1 + ((j + 1 : Nat) : Int) : Int)) (ev_int (ev_wrap (a := sp.1 + ((j : Nat) : Int) + 1) (by kernel_rfl) (by omega) (by omega)) (by omega)) ?_
       refine pT (.int .i64 (sp.1 + ((j + 1 : Nat) : Int) : Int)) ?_; refine pl_nil ?_
       refine qw_round [2, 3, 5, 6, 9, 10, 14] (ws' := [(2, .int .i64 mi), (3, .int .i64 (((W : Nat) : Int) : Int)), (5, .pointer (some ⟨O1, 0, none⟩)), (6, .pointer (some ⟨O5, 0, none⟩)), (9, .pointer (some ⟨O9, 0, none⟩)), (10, .pointer (some ⟨O13, 0, none⟩)), (14, .int .i64 (sp.1 + ((j + 1 : Nat) : Int) : Int))]) (by kernel_rfl) _ ?_ ⟨(j + 1), rfl, rfl, (T hs29 (T hs34 (T hs37 (T hs39 (T hs43 hs69))))), hE, (hY66.trans hX42), (Swath.NoHit.le hit8 (by rw [Nat.succ_mul]; omega)), by omega⟩
       omega
      ·
       refine pU (.bool false) (ev_neq (show _ = Result.ok (Next.value (Value.bool ((((k : Nat) : Int) : Int) == (-(((k : Nat) : Int)) : Int)))) _ from by kernel_rfl) (hc71)) ?_
       refine pT (.bool false) ?_; refine pl_nil ?_; refine qw_then ?_; refine cC14 2 3 5 6 9 10 14 15 16 59 60 66 67 85 (fun L => ?_)
       refine cw_f (by kernel_rfl) ?_
       refine cw_skip ?_
       refine qw_block ?_
       refine qw_then ?_; refine cw_plain ?_; refine pT (.int .i64 1) ?_; refine pT (.int .i64 1) ?_; refine pl_nil ?_
       refine qw_round [2, 3, 5, 6, 9, 10, 14, 15, 16, 59, 60, 66, 67] (ws' := [(2, .int .i64 mi), (3, .int .i64 (((W : Nat) : Int) : Int)), (5, .pointer (some ⟨O1, 0, none⟩)), (6, .pointer (some ⟨O5, 0, none⟩)), (9, .pointer (some ⟨O9, 0, none⟩)), (10, .pointer (some ⟨O13, 0, none⟩)), (14, .int .i64 (sp.1 + ((j : Nat) : Int) : Int)), (15, .pointer (some ⟨O32, 0, none⟩)), (16, .int .i64 (((k : Nat) : Int) : Int)), (59, .int .i64 (((W + 1 : Nat) : Int) : Int)), (60, .int .i64 (((k : Nat) : Int) : Int)), (66, .agg #[.int .i64 (((k : Nat) : Int) : Int), .int .i64 (-(((k : Nat) : Int)) : Int)]), (67, .int .i64 1)]) (by kernel_rfl) _ ?_ ⟨1, rfl, rfl, (T hs43 hs69), hE, hX42, (Swath.NoHit.le (hit9) (by omega)), by omega⟩
       omega
     ·
      refine pU (.bool false) (ev_neq (show _ = Result.ok (Next.value (Value.bool ((((k : Nat) : Int) : Int) == (((W : Nat) : Int) : Int)))) _ from by kernel_rfl) (hc70)) ?_
      refine pT (.bool false) ?_; refine pK ?_; refine pK ?_; refine pK ?_; refine pK ?_; refine pT (.bool false) ?_; refine pl_nil ?_; refine qw_then ?_; refine cC14 2 3 5 6 9 10 14 15 16 59 60 66 67 85 (fun L => ?_)
      refine cw_f (by kernel_rfl) ?_
      refine cw_skip ?_
      refine qw_block ?_
      refine qw_then ?_; refine cw_plain ?_; refine pT (.int .i64 1) ?_; refine pT (.int .i64 1) ?_; refine pl_nil ?_
      refine qw_round [2, 3, 5, 6, 9, 10, 14, 15, 16, 59, 60, 66, 67] (ws' := [(2, .int .i64 mi), (3, .int .i64 (((W : Nat) : Int) : Int)), (5, .pointer (some ⟨O1, 0, none⟩)), (6, .pointer (some ⟨O5, 0, none⟩)), (9, .pointer (some ⟨O9, 0, none⟩)), (10, .pointer (some ⟨O13, 0, none⟩)), (14, .int .i64 (sp.1 + ((j : Nat) : Int) : Int)), (15, .pointer (some ⟨O32, 0, none⟩)), (16, .int .i64 (((k : Nat) : Int) : Int)), (59, .int .i64 (((W + 1 : Nat) : Int) : Int)), (60, .int .i64 (((k : Nat) : Int) : Int)), (66, .agg #[.int .i64 (((k : Nat) : Int) : Int), .int .i64 (-(((k : Nat) : Int)) : Int)]), (67, .int .i64 1)]) (by kernel_rfl) _ ?_ ⟨1, rfl, rfl, (T hs43 hs69), hE, hX42, (Swath.NoHit.le (hit9) (by omega)), by omega⟩
      omega
   ·
    refine cw_seq ?_; refine cw_plain ?_; refine pT (.bool true) ?_; refine pl_nil ?_; refine qw_then ?_; refine cw_seq ?_
    refine cw_t (by kernel_rfl) ?_
    refine cw_skip ?_
    refine qw_then ?_; refine cw_seq ?_
    refine cw_block ?_
    refine cw_seq ?_; refine cw_plain ?_; refine pT (.int .i64 (-(((k : Nat) : Int)) : Int)) ?_; refine pT (.int .i64 (-(((k : Nat) : Int)) : Int)) ?_; refine pl_nil ?_; refine qw_then ?_; refine cC14 2 3 5 6 9 10 14 15 16 18 59 60 66 67 (fun L => ?_); refine cw_seq ?_; refine cw_seq ?_
    have hlk : Swath.lkQ (2 * k + 1) = -((k : Nat) : Int) := Swath.lk_odd k
    have hfs := Swath.best_at (o := o) (sp := sp) (mi := mi) (wd := W) (l := l) (j := j) (x := 2 * k + 1) (by omega)
    rw [hlk] at hfs
    rcases Bool.eq_false_or_eq_true (Swath.showsB o (sp.1 + ((j : Nat) : Int), sp.1 + ((j : Nat) : Int) + mi) (-((k : Nat) : Int)) l) with hsh | hsh
    ·
     have hbest := Swath.best_hit (o := o) (sp := sp) (mi := mi) (wd := W) (l := l) (j := j) (x := 2 * k + 1) (by omega) (by omega) (Swath.NoHit.le hitQ (by omega)) (by rw [hlk]; exact hsh)
     rw [hlk] at hbest
     refine cw_plain ?_
     have hY72 := hX28.trans hX38
     have hY73 := hX17.trans hY72
     refine pU (.agg #[.int .i64 o.p, .int .i64 o.f, .int .i64 o.lo, .int .i64 o.hi, .int .i64 o.nd, .int .i64 o.tn, .int .i64 o.sl]) (ex_load rfl (by kernel_rfl) (ld24 ((BoxAt.ext (hY73.trans hX42) bO1_0).1) ((BoxAt.ext (hY73.trans hX42) bO1_1).1) ((BoxAt.ext (hY73.trans hX42) bO1_2).1) ((BoxAt.ext (hY73.trans hX42) bO1_3).1) ((BoxAt.ext (hY73.trans hX42) bO1_4).1) ((BoxAt.ext (hY73.trans hX42) bO1_5).1) ((BoxAt.ext (hY73.trans hX42) bO1_6).1))) ?_
     refine pU (.agg #[.int .i64 (sp.1 + ((j : Nat) : Int) : Int), .int .i64 ((sp.1 + ((j : Nat) : Int)) + mi : Int)]) (ex_load rfl (by kernel_rfl) (ld26 ((BoxAt.ext (hX38.trans hX42) bO32_0).1) ((BoxAt.ext (hX38.trans hX42) bO32_1).1))) ?_
     refine pT (.int .i64 (-(((k : Nat) : Int)) : Int)) ?_
     refine pU (.agg #[.slice a n c]) (ex_load rfl (by kernel_rfl) (ld31 ((BoxAt.ext (hY73.trans hX42) bO9_0).1))) ?_
     refine pS (sn_call (f := 24) (args := #[.agg #[.int .i64 o.p, .int .i64 o.f, .int .i64 o.lo, .int .i64 o.hi, .int .i64 o.nd, .int .i64 o.tn, .int .i64 o.sl], .agg #[.int .i64 (sp.1 + ((j : Nat) : Int) : Int), .int .i64 ((sp.1 + ((j : Nat) : Int)) + mi : Int)], .int .i64 (-(((k : Nat) : Int)) : Int), .agg #[.slice a n c]]) (by kernel_rfl) ((Shows_r (s := (sp.1 + ((j : Nat) : Int), sp.1 + ((j : Nat) : Int) + mi)) (r := true) _ _ hA (e1.trans hE) hsh).mono ?_))
     rintro e w74 ⟨rfl, hb⟩
     replace hE := hE.trans hb; replace hX42 := hX42.trans hb; have hs75 := hb.size; clear hb
     refine ⟨_, rfl, ?_⟩
     refine pl_nil ?_; refine qw_then ?_; refine cC15 2 3 5 6 9 10 14 15 16 18 59 60 66 67 74 (fun L => ?_)
     refine cw_t (by kernel_rfl) ?_
     refine cw_seq ?_; refine cw_plain ?_
     refine pU (.agg #[.int .i64 (sp.1 + ((j : Nat) : Int) : Int), .int .i64 ((sp.1 + ((j : Nat) : Int)) + mi : Int)]) (ex_load rfl (by kernel_rfl) (ld26 ((BoxAt.ext (hX38.trans hX42) bO32_0).1) ((BoxAt.ext (hX38.trans hX42) bO32_1).1))) ?_
     refine pT (.int .i64 (-(((k : Nat) : Int)) : Int)) ?_
     have bO1_t77 := (BoxAt.ext (hY73.trans hX42) bO1_0)
     have bO1_t78 := (BoxAt.ext (hY73.trans hX42) bO1_1)
     have bO1_t79 := (BoxAt.ext (hY73.trans hX42) bO1_2)
     have bO1_t80 := (BoxAt.ext (hY73.trans hX42) bO1_3)
     have bO1_t81 := (BoxAt.ext (hY73.trans hX42) bO1_4)
     have bO1_t82 := (BoxAt.ext (hY73.trans hX42) bO1_5)
     have bO1_t83 := (BoxAt.ext (hY73.trans hX42) bO1_6)
     have bO5_t84 := (BoxAt.ext (hY73.trans hX42) bO5_0)
     have bO5_t85 := (BoxAt.ext (hY73.trans hX42) bO5_1)
     have bO9_t86 := (BoxAt.ext (hY73.trans hX42) bO9_0)
     have bO13_t87 := (BoxAt.ext (hY73.trans hX42) bO13_0)
     have bO13_t88 := (BoxAt.ext (hY73.trans hX42) bO13_1)
     have bO32_t89 := (BoxAt.ext (hX38.trans hX42) bO32_0)
     have bO32_t90 := (BoxAt.ext (hX38.trans hX42) bO32_1)
     refine pP (sn_set2 (O := O13) (j := 0) (v := .int .i64 (sp.1 + ((j : Nat) : Int) : Int)) (v' := .int .i64 ((sp.1 + ((j : Nat) : Int)) + mi : Int)) (ex_store (p := .pointer (some ⟨O13, 0, none⟩)) (v := .agg #[.int .i64 (sp.1 + ((j : Nat) : Int) : Int), .int .i64 ((sp.1 + ((j : Nat) : Int)) + mi : Int)]) rfl (by kernel_rfl) (by kernel_rfl) (st26 bO13_t87.1 bO13_t87.2 bO13_t88.1 bO13_t88.2)) bO13_t87 bO13_t88 ?_)
     intro X76 ho hv0 hv1 hk; replace hE := ho.ext hE (T (T hs3 (T hs7 hs11)) (Nat.le_of_eq hzO13))
     have q9 := fun (j : Nat) (v : Value) (h : BoxAt _ O1 j v) => ho.box (Nat.ne_of_gt (Nat.lt_of_lt_of_le lt4 (T (T hs7 hs11) (Nat.le_of_eq hzO13)))) h
     replace bO1_t77 := q9 _ _ bO1_t77; replace bO1_t78 := q9 _ _ bO1_t78; replace bO1_t79 := q9 _ _ bO1_t79; replace bO1_t80 := q9 _ _ bO1_t80; replace bO1_t81 := q9 _ _ bO1_t81; replace bO1_t82 := q9 _ _ bO1_t82; replace bO1_t83 := q9 _ _ bO1_t83; clear q9
     have q9 := fun (j : Nat) (v : Value) (h : BoxAt _ O5 j v) => ho.box (Nat.ne_of_gt (Nat.lt_of_lt_of_le lt8 (T hs11 (Nat.le_of_eq hzO13)))) h
     replace bO5_t84 := q9 _ _ bO5_t84; replace bO5_t85 := q9 _ _ bO5_t85; clear q9; replace bO9_t86 := ho.box (Nat.ne_of_gt (Nat.lt_of_lt_of_le lt12 (Nat.le_of_eq hzO13))) bO9_t86
     have q9 := fun (j : Nat) (v : Value) (h : BoxAt _ O32 j v) => ho.box (Nat.ne_of_lt (Nat.lt_of_lt_of_le lt16 (T (T hs19 (T hs21 (T hs23 (T hs25 (T hs27 hs29))))) (Nat.le_of_eq hzO32)))) h
     replace bO32_t89 := q9 _ _ bO32_t89; replace bO32_t90 := q9 _ _ bO32_t90; clear q9; have hs91 : w74.heap.size ≤ X76.heap.size := Nat.le_of_eq ho.size.symm; clear ho hk bO13_t87 bO13_t88; have bO13_t87 := hv0; clear hv0; have bO13_t88 := hv1; clear hv1; refine pT (.int .i64 (-(((k : Nat) : Int)) : Int)) ?_; refine pT (.bool true) ?_; refine pT (.int .i64 0) ?_; refine pl_nil ?_; refine qw_then ?_; refine cC4 10 11 12 13 (fun L => ?_)
     refine cw_ret ?_
     refine qw_then_ret ?_
     refine qw_block_ret ?_
     refine qw_then_ret ?_
     refine qw_then_ret ?_
     refine qw_block_ret ?_
     refine qw_block_ret ?_
     refine qw_then_ret ?_
     refine qw_then_ret ?_
     refine qw_block_ret ?_
     refine qw_block_ret ?_
     refine qw_then_ret ?_
     refine qw_then_ret ?_
     refine qw_block_ret ?_
     refine qw_then_ret ?_
     refine qw_scope_ret ?_
     refine qw_ret [.agg #[.int .i64 (sp.1 + ((j : Nat) : Int) : Int), .int .i64 ((sp.1 + ((j : Nat) : Int)) + mi : Int)], .int .i64 (-(((k : Nat) : Int)) : Int), .bool true, .int .i64 0] rfl ⟨⟨_, by kernel_rfl, res_ld (ld26 (bO13_t87.1) (bO13_t88.1))⟩, (by kernel_rfl), (by kernel_rfl), (by kernel_rfl), trivial⟩ ?_
     exact ⟨by rw [hbest]; rfl, hE⟩
    ·
     have hit9 := Swath.NoHit.next (Swath.NoHit.le hitQ (show j * (2 * W + 2) + (2 * k + 1) = _ by omega)) (hfs.trans hsh)
     refine cw_plain ?_
     have hY92 := hX28.trans hX38
     have hY93 := hX17.trans hY92
     refine pU (.agg #[.int .i64 o.p, .int .i64 o.f, .int .i64 o.lo, .int .i64 o.hi, .int .i64 o.nd, .int .i64 o.tn, .int .i64 o.sl]) (ex_load rfl (by kernel_rfl) (ld24 ((BoxAt.ext (hY93.trans hX42) bO1_0).1) ((BoxAt.ext (hY93.trans hX42) bO1_1).1) ((BoxAt.ext (hY93.trans hX42) bO1_2).1) ((BoxAt.ext (hY93.trans hX42) bO1_3).1) ((BoxAt.ext (hY93.trans hX42) bO1_4).1) ((BoxAt.ext (hY93.trans hX42) bO1_5).1) ((BoxAt.ext (hY93.trans hX42) bO1_6).1))) ?_
     refine pU (.agg #[.int .i64 (sp.1 + ((j : Nat) : Int) : Int), .int .i64 ((sp.1 + ((j : Nat) : Int)) + mi : Int)]) (ex_load rfl (by kernel_rfl) (ld26 ((BoxAt.ext (hX38.trans hX42) bO32_0).1) ((BoxAt.ext (hX38.trans hX42) bO32_1).1))) ?_
     refine pT (.int .i64 (-(((k : Nat) : Int)) : Int)) ?_
     refine pU (.agg #[.slice a n c]) (ex_load rfl (by kernel_rfl) (ld31 ((BoxAt.ext (hY93.trans hX42) bO9_0).1))) ?_
     refine pS (sn_call (f := 24) (args := #[.agg #[.int .i64 o.p, .int .i64 o.f, .int .i64 o.lo, .int .i64 o.hi, .int .i64 o.nd, .int .i64 o.tn, .int .i64 o.sl], .agg #[.int .i64 (sp.1 + ((j : Nat) : Int) : Int), .int .i64 ((sp.1 + ((j : Nat) : Int)) + mi : Int)], .int .i64 (-(((k : Nat) : Int)) : Int), .agg #[.slice a n c]]) (by kernel_rfl) ((Shows_r (s := (sp.1 + ((j : Nat) : Int), sp.1 + ((j : Nat) : Int) + mi)) (r := false) _ _ hA (e1.trans hE) hsh).mono ?_))
     rintro e w94 ⟨rfl, hb⟩
     replace hE := hE.trans hb; replace hX42 := hX42.trans hb; have hs95 := hb.size; clear hb
     refine ⟨_, rfl, ?_⟩
     refine pl_nil ?_; refine qw_then ?_; refine cC15 2 3 5 6 9 10 14 15 16 18 59 60 66 67 74 (fun L => ?_)
     refine cw_f (by kernel_rfl) ?_
     refine cw_skip ?_
     refine qw_then ?_; refine cC14 2 3 5 6 9 10 14 15 16 18 59 60 66 67 (fun L => ?_); refine cw_seq ?_; refine cw_plain ?_; refine pT (.int .i64 (((k : Nat) : Int) : Int)) ?_; refine pT (.int .i64 (((W : Nat) : Int) : Int)) ?_
     by_cases hc96 : (((k : Nat) : Int) : Int) = (((W : Nat) : Int) : Int)
     ·
      refine pU (.bool true) (ev_eq (show _ = Result.ok (Next.value (Value.bool ((((k : Nat) : Int) : Int) == (((W : Nat) : Int) : Int)))) _ from by kernel_rfl) (hc96)) ?_
      refine pT (.bool true) ?_; refine pT (.int .i64 (-(((k : Nat) : Int)) : Int)) ?_; refine pT (.int .i64 (((k : Nat) : Int) : Int)) ?_
      refine pU (.int .i64 (-(((k : Nat) : Int)) : Int)) (ev_int (ev_wrap (a := 0 - (((k : Nat) : Int))) (by kernel_rfl) (by omega) (by omega)) (by omega)) ?_
      by_cases hc97 : (-(((k : Nat) : Int)) : Int) = (-(((k : Nat) : Int)) : Int)
      ·
       refine pU (.bool true) (ev_eq (show _ = Result.ok (Next.value (Value.bool ((-(((k : Nat) : Int)) : Int) == (-(((k : Nat) : Int)) : Int)))) _ from by kernel_rfl) (hc97)) ?_
       refine pT (.bool true) ?_; refine pl_nil ?_; refine qw_then ?_; refine cC14 2 3 5 6 9 10 14 15 16 59 60 66 67 85 (fun L => ?_)
       refine cw_t (by kernel_rfl) ?_
       refine cw_exit ?_
       refine qw_block_on (by decide) ?_
       refine qw_then_exit ?_
       refine qw_then_exit ?_
       refine qw_block_on (by decide) ?_
       refine qw_block_on (by decide) ?_
       refine qw_then_exit ?_
       refine qw_then_exit ?_
       refine qw_block_on (by decide) ?_
       refine qw_block_out ?_
       refine qw_then ?_; refine cw_plain ?_; refine pT (.int .i64 (sp.1 + ((j : Nat) : Int) : Int)) ?_
       refine pU (.int .i64 (sp.1 + ((j + 1 : Nat) : Int) : Int)) (ev_int (ev_wrap (a := sp.1 + ((j : Nat) : Int) + 1) (by kernel_rfl) (by omega) (by omega)) (by omega)) ?_
       refine pT (.int .i64 (sp.1 + ((j + 1 : Nat) : Int) : Int)) ?_; refine pl_nil ?_
       refine qw_round [2, 3, 5, 6, 9, 10, 14] (ws' := [(2, .int .i64 mi), (3, .int .i64 (((W : Nat) : Int) : Int)), (5, .pointer (some ⟨O1, 0, none⟩)), (6, .pointer (some ⟨O5, 0, none⟩)), (9, .pointer (some ⟨O9, 0, none⟩)), (10, .pointer (some ⟨O13, 0, none⟩)), (14, .int .i64 (sp.1 + ((j + 1 : Nat) : Int) : Int))]) (by kernel_rfl) _ ?_ ⟨(j + 1), rfl, rfl, (T hs29 (T hs34 (T hs37 (T hs39 (T hs43 hs95))))), hE, (hY92.trans hX42), (Swath.NoHit.le hit9 (by rw [Nat.succ_mul]; omega)), by omega⟩
       omega
      ·
       refine pU (.bool false) (ev_neq (show _ = Result.ok (Next.value (Value.bool ((-(((k : Nat) : Int)) : Int) == (-(((k : Nat) : Int)) : Int)))) _ from by kernel_rfl) (hc97)) ?_
       refine pT (.bool false) ?_; refine pl_nil ?_; refine qw_then ?_; refine cC14 2 3 5 6 9 10 14 15 16 59 60 66 67 85 (fun L => ?_)
       refine cw_f (by kernel_rfl) ?_
       refine cw_skip ?_
       refine qw_block ?_
       refine qw_then ?_; refine cw_plain ?_; refine pT (.int .i64 2) ?_; refine pT (.int .i64 2) ?_; refine pl_nil ?_
       refine qw_round [2, 3, 5, 6, 9, 10, 14, 15, 16, 59, 60, 66, 67] (ws' := [(2, .int .i64 mi), (3, .int .i64 (((W : Nat) : Int) : Int)), (5, .pointer (some ⟨O1, 0, none⟩)), (6, .pointer (some ⟨O5, 0, none⟩)), (9, .pointer (some ⟨O9, 0, none⟩)), (10, .pointer (some ⟨O13, 0, none⟩)), (14, .int .i64 (sp.1 + ((j : Nat) : Int) : Int)), (15, .pointer (some ⟨O32, 0, none⟩)), (16, .int .i64 (((k : Nat) : Int) : Int)), (59, .int .i64 (((W + 1 : Nat) : Int) : Int)), (60, .int .i64 (((k : Nat) : Int) : Int)), (66, .agg #[.int .i64 (((k : Nat) : Int) : Int), .int .i64 (-(((k : Nat) : Int)) : Int)]), (67, .int .i64 2)]) (by kernel_rfl) _ ?_ ⟨2, rfl, rfl, (T hs43 hs95), hE, hX42, (Swath.NoHit.le (hit9) (by omega)), by omega⟩
       omega
     ·
      refine pU (.bool false) (ev_neq (show _ = Result.ok (Next.value (Value.bool ((((k : Nat) : Int) : Int) == (((W : Nat) : Int) : Int)))) _ from by kernel_rfl) (hc96)) ?_
      refine pT (.bool false) ?_; refine pK ?_; refine pK ?_; refine pK ?_; refine pK ?_; refine pT (.bool false) ?_; refine pl_nil ?_; refine qw_then ?_; refine cC14 2 3 5 6 9 10 14 15 16 59 60 66 67 85 (fun L => ?_)
      refine cw_f (by kernel_rfl) ?_
      refine cw_skip ?_
      refine qw_block ?_
      refine qw_then ?_; refine cw_plain ?_; refine pT (.int .i64 2) ?_; refine pT (.int .i64 2) ?_; refine pl_nil ?_
      refine qw_round [2, 3, 5, 6, 9, 10, 14, 15, 16, 59, 60, 66, 67] (ws' := [(2, .int .i64 mi), (3, .int .i64 (((W : Nat) : Int) : Int)), (5, .pointer (some ⟨O1, 0, none⟩)), (6, .pointer (some ⟨O5, 0, none⟩)), (9, .pointer (some ⟨O9, 0, none⟩)), (10, .pointer (some ⟨O13, 0, none⟩)), (14, .int .i64 (sp.1 + ((j : Nat) : Int) : Int)), (15, .pointer (some ⟨O32, 0, none⟩)), (16, .int .i64 (((k : Nat) : Int) : Int)), (59, .int .i64 (((W + 1 : Nat) : Int) : Int)), (60, .int .i64 (((k : Nat) : Int) : Int)), (66, .agg #[.int .i64 (((k : Nat) : Int) : Int), .int .i64 (-(((k : Nat) : Int)) : Int)]), (67, .int .i64 2)]) (by kernel_rfl) _ ?_ ⟨2, rfl, rfl, (T hs43 hs95), hE, hX42, (Swath.NoHit.le (hit9) (by omega)), by omega⟩
      omega
   ·
    refine cw_seq ?_; refine cw_plain ?_; refine pT (.bool false) ?_; refine pl_nil ?_; refine qw_then ?_; refine cw_seq ?_
    refine cw_f (by kernel_rfl) ?_
    refine cw_exit ?_
    refine qw_then_exit ?_
    refine qw_then_exit ?_
    refine qw_block_out ?_
    refine qw_block ?_
    refine qw_then ?_; refine cw_plain ?_
    refine pU (.int .i64 (((k + 1 : Nat) : Int) : Int)) (ev_wrap (by kernel_rfl) (by omega) (by omega)) ?_
    refine pT (.int .i64 (((k + 1 : Nat) : Int) : Int)) ?_; refine pl_nil ?_
    refine qw_round [2, 3, 5, 6, 9, 10, 14, 15, 59, 60] (ws' := [(2, .int .i64 mi), (3, .int .i64 (((W : Nat) : Int) : Int)), (5, .pointer (some ⟨O1, 0, none⟩)), (6, .pointer (some ⟨O5, 0, none⟩)), (9, .pointer (some ⟨O9, 0, none⟩)), (10, .pointer (some ⟨O13, 0, none⟩)), (14, .int .i64 (sp.1 + ((j : Nat) : Int) : Int)), (15, .pointer (some ⟨O32, 0, none⟩)), (59, .int .i64 (((W + 1 : Nat) : Int) : Int)), (60, .int .i64 (((k + 1 : Nat) : Int) : Int))]) (by kernel_rfl) _ ?_ ⟨(k + 1), rfl, rfl, (T hs39 hs43), hE, (hX38.trans hX42), (Swath.NoHit.le hitQ (by omega)), by omega⟩
    omega
  ·
   have hkw : k = W + 1 := by omega
   refine cw_seq ?_; refine cw_plain ?_
   refine pU (.bool false) (ev_ndec (show _ = Result.ok (Next.value (Value.bool (decide ((((k : Nat) : Int) : Int) < (((W + 1 : Nat) : Int) : Int))))) _ from by kernel_rfl) (by omega)) ?_
   refine pl_nil ?_; refine qw_then ?_; refine cw_seq ?_
   refine cw_f (by kernel_rfl) ?_
   refine cw_exit ?_
   refine qw_then_exit ?_
   refine qw_then_exit ?_
   refine qw_block_out ?_
   refine qw_block ?_
   refine qw_then ?_; refine cw_plain ?_; refine pT (.int .i64 (sp.1 + ((j : Nat) : Int) : Int)) ?_
   refine pU (.int .i64 (sp.1 + ((j + 1 : Nat) : Int) : Int)) (ev_int (ev_wrap (a := sp.1 + ((j : Nat) : Int) + 1) (by kernel_rfl) (by omega) (by omega)) (by omega)) ?_
   refine pT (.int .i64 (sp.1 + ((j + 1 : Nat) : Int) : Int)) ?_; refine pl_nil ?_
   refine qw_round [2, 3, 5, 6, 9, 10, 14] (ws' := [(2, .int .i64 mi), (3, .int .i64 (((W : Nat) : Int) : Int)), (5, .pointer (some ⟨O1, 0, none⟩)), (6, .pointer (some ⟨O5, 0, none⟩)), (9, .pointer (some ⟨O9, 0, none⟩)), (10, .pointer (some ⟨O13, 0, none⟩)), (14, .int .i64 (sp.1 + ((j + 1 : Nat) : Int) : Int))]) (by kernel_rfl) _ ?_ ⟨(j + 1), rfl, rfl, (T hs29 (T hs34 (T hs37 hs39))), hE, (hX28.trans hX38), (Swath.NoHit.le hitK (by rw [Nat.succ_mul]; omega)), by omega⟩
   omega
 ·
  have hjn : j = Swath.starts sp mi := by omega
  refine cw_seq ?_; refine cw_seq ?_; refine cw_plain ?_; refine pT (.int .i64 (sp.1 + ((j : Nat) : Int) : Int)) ?_; refine pT (.int .i64 mi) ?_
  refine pU (.int .i64 ((sp.1 + ((j : Nat) : Int)) + mi : Int)) (ev_wrap (by kernel_rfl) (by omega) (by omega)) ?_
  refine pT (.pointer (some ⟨O5, 1, none⟩)) ?_
  refine pU (.int .i64 sp.2) (ex_load rfl (by kernel_rfl) (ld3 ((BoxAt.ext (hX17.trans hX28) bO5_1).1))) ?_
  refine pU (.bool false) (ev_ndec (show _ = Result.ok (Next.value (Value.bool (decide (((sp.1 + ((j : Nat) : Int)) + mi : Int) ≤ (sp.2 : Int))))) _ from by kernel_rfl) (by omega)) ?_
  refine pl_nil ?_; refine qw_then ?_
  refine cw_f (by kernel_rfl) ?_
  refine cw_exit ?_
  refine qw_then_exit ?_
  refine qw_then_exit ?_
  refine qw_block_out ?_
  refine qw_then ?_; refine cw_seq ?_; refine cw_plain ?_; refine pT (.agg #[.int .i64 0, .int .i64 0]) ?_
  have bO1_t99 := (BoxAt.ext (hX17.trans hX28) bO1_0)
  have bO1_t100 := (BoxAt.ext (hX17.trans hX28) bO1_1)
  have bO1_t101 := (BoxAt.ext (hX17.trans hX28) bO1_2)
  have bO1_t102 := (BoxAt.ext (hX17.trans hX28) bO1_3)
  have bO1_t103 := (BoxAt.ext (hX17.trans hX28) bO1_4)
  have bO1_t104 := (BoxAt.ext (hX17.trans hX28) bO1_5)
  have bO1_t105 := (BoxAt.ext (hX17.trans hX28) bO1_6)
  have bO5_t106 := (BoxAt.ext (hX17.trans hX28) bO5_0)
  have bO5_t107 := (BoxAt.ext (hX17.trans hX28) bO5_1)
  have bO9_t108 := (BoxAt.ext (hX17.trans hX28) bO9_0)
  have bO13_t109 := (BoxAt.ext (hX17.trans hX28) bO13_0)
  have bO13_t110 := (BoxAt.ext (hX17.trans hX28) bO13_1)
  refine pP (sn_set2 (O := O13) (j := 0) (v := .int .i64 0) (v' := .int .i64 0) (ex_store (p := .pointer (some ⟨O13, 0, none⟩)) (v := .agg #[.int .i64 0, .int .i64 0]) rfl (by kernel_rfl) (by kernel_rfl) (st26 bO13_t109.1 bO13_t109.2 bO13_t110.1 bO13_t110.2)) bO13_t109 bO13_t110 ?_)
  intro X98 ho hv0 hv1 hk; replace hE := ho.ext hE (T (T hs3 (T hs7 hs11)) (Nat.le_of_eq hzO13))
  have q9 := fun (j : Nat) (v : Value) (h : BoxAt _ O1 j v) => ho.box (Nat.ne_of_gt (Nat.lt_of_lt_of_le lt4 (T (T hs7 hs11) (Nat.le_of_eq hzO13)))) h
  replace bO1_t99 := q9 _ _ bO1_t99; replace bO1_t100 := q9 _ _ bO1_t100; replace bO1_t101 := q9 _ _ bO1_t101; replace bO1_t102 := q9 _ _ bO1_t102; replace bO1_t103 := q9 _ _ bO1_t103; replace bO1_t104 := q9 _ _ bO1_t104; replace bO1_t105 := q9 _ _ bO1_t105; clear q9
  have q9 := fun (j : Nat) (v : Value) (h : BoxAt _ O5 j v) => ho.box (Nat.ne_of_gt (Nat.lt_of_lt_of_le lt8 (T hs11 (Nat.le_of_eq hzO13)))) h
  replace bO5_t106 := q9 _ _ bO5_t106; replace bO5_t107 := q9 _ _ bO5_t107; clear q9; replace bO9_t108 := ho.box (Nat.ne_of_gt (Nat.lt_of_lt_of_le lt12 (Nat.le_of_eq hzO13))) bO9_t108; have hs111 : w30.heap.size ≤ X98.heap.size := Nat.le_of_eq ho.size.symm; clear ho hk bO13_t109 bO13_t110; have bO13_t109 := hv0; clear hv0; have bO13_t110 := hv1; clear hv1; refine pT (.int .i64 0) ?_; refine pT (.bool false) ?_; refine pT (.int .i64 0) ?_; refine pl_nil ?_; refine qw_then ?_; refine cC4 10 11 12 13 (fun L => ?_)
  refine cw_ret ?_
  refine qw_scope_ret ?_
  refine qw_ret [.agg #[.int .i64 0, .int .i64 0], .int .i64 0, .bool false, .int .i64 0] rfl ⟨⟨_, by kernel_rfl, res_ld (ld26 (bO13_t109.1) (bO13_t110.1))⟩, (by kernel_rfl), (by kernel_rfl), (by kernel_rfl), trivial⟩ ?_
  have hbest := Swath.best_no (o := o) (sp := sp) (mi := mi) (wd := W) (l := l) (hjn ▸ hitJ)
  exact ⟨by rw [hbest]; rfl, hE⟩
set_option maxRecDepth 1000000 in
set_option maxHeartbeats 4000000 in
theorem Best_n {w1 : World} {o : Orb} {sp : Int × Int} {mi wd : Int} {a : Option Addr} {l : List Int} {n : Nat} {v : Bool} (c : Nat) (w : World) (hA : AA w1 a l n v) (e1 : Ext w1 w) (hno : (Orb.ok o && Swath.spB sp 300 && Globe.inB mi 1 60 && Globe.inB wd 0 4 && v) = false) :
  Calls Try.prog 26 #[.agg #[.int .i64 o.p, .int .i64 o.f, .int .i64 o.lo, .int .i64 o.hi, .int .i64 o.nd, .int .i64 o.tn, .int .i64 o.sl], .agg #[.int .i64 sp.1, .int .i64 sp.2], .int .i64 mi, .int .i64 wd, .agg #[.slice a n c]] w fun e w' => e = .returned (.tuple #[.agg #[.int .i64 0, .int .i64 0], .int .i64 0, .bool false, .int .i64 80]) ∧ Ext w w' := by
 refine calls_cw 89 [(4, .agg #[.slice a n c]), (3, .int .i64 wd), (2, .int .i64 mi), (1, .agg #[.int .i64 sp.1, .int .i64 sp.2]), (0, .agg #[.int .i64 o.p, .int .i64 o.f, .int .i64 o.lo, .int .i64 o.hi, .int .i64 o.nd, .int .i64 o.tn, .int .i64 o.sl])] Try.func26 rfl Try.ntmps26 (by kernel_rfl) (by kernel_rfl) (fun L => ?_)
 have hE : Ext w w := Ext.refl w
 refine cw_seq ?_; refine cw_plain ?_
 refine pS (sn_new (us := #[.int .i64 o.p, .int .i64 o.f, .int .i64 o.lo, .int .i64 o.hi, .int .i64 o.nd, .int .i64 o.tn, .int .i64 o.sl]) (t := 24) (by kernel_rfl) ?_)
 intro O1 X2 hzO1 hyO1 hb hbx; have ⟨bO1_0, bO1_1, bO1_2, bO1_3, bO1_4, bO1_5, bO1_6⟩ := bx7 hbx; clear hbx
 replace hE := hE.trans hb; have hs3 := hb.size; clear hb; have lt4 := bO1_0.lt
 refine pS (sn_new (us := #[.int .i64 sp.1, .int .i64 sp.2]) (t := 26) (by kernel_rfl) ?_)
 intro O5 X6 hzO5 hyO5 hb hbx; have ⟨bO5_0, bO5_1⟩ := bx2 hbx; clear hbx
 replace hE := hE.trans hb; replace bO1_0 := BoxAt.ext hb bO1_0; replace bO1_1 := BoxAt.ext hb bO1_1; replace bO1_2 := BoxAt.ext hb bO1_2; replace bO1_3 := BoxAt.ext hb bO1_3; replace bO1_4 := BoxAt.ext hb bO1_4; replace bO1_5 := BoxAt.ext hb bO1_5; replace bO1_6 := BoxAt.ext hb bO1_6; have hs7 := hb.size; clear hb; have lt8 := bO5_0.lt
 refine pS (sn_new (us := #[.slice a n c]) (t := 31) (by kernel_rfl) ?_)
 intro O9 X10 hzO9 hyO9 hb hbx; have bO9_0 := bx1 hbx; clear hbx
 replace hE := hE.trans hb; replace bO1_0 := BoxAt.ext hb bO1_0; replace bO1_1 := BoxAt.ext hb bO1_1; replace bO1_2 := BoxAt.ext hb bO1_2; replace bO1_3 := BoxAt.ext hb bO1_3; replace bO1_4 := BoxAt.ext hb bO1_4; replace bO1_5 := BoxAt.ext hb bO1_5; replace bO1_6 := BoxAt.ext hb bO1_6; replace bO5_0 := BoxAt.ext hb bO5_0; replace bO5_1 := BoxAt.ext hb bO5_1; have hs11 := hb.size; clear hb; have lt12 := bO9_0.lt
 refine pS (sn_new (us := #[.int .i64 0, .int .i64 0]) (t := 26) (by kernel_rfl) ?_)
 intro O13 X14 hzO13 hyO13 hb hbx; have ⟨bO13_0, bO13_1⟩ := bx2 hbx; clear hbx
 replace hE := hE.trans hb; replace bO1_0 := BoxAt.ext hb bO1_0; replace bO1_1 := BoxAt.ext hb bO1_1; replace bO1_2 := BoxAt.ext hb bO1_2; replace bO1_3 := BoxAt.ext hb bO1_3; replace bO1_4 := BoxAt.ext hb bO1_4; replace bO1_5 := BoxAt.ext hb bO1_5; replace bO1_6 := BoxAt.ext hb bO1_6; replace bO5_0 := BoxAt.ext hb bO5_0; replace bO5_1 := BoxAt.ext hb bO5_1; replace bO9_0 := BoxAt.ext hb bO9_0; have hs15 := hb.size; clear hb; have lt16 := bO13_0.lt; refine pT (.int .i64 0) ?_; refine pT (.bool false) ?_; refine pT (.int .i64 0) ?_; refine pl_nil ?_; refine qw_then ?_
 refine cw_scope ?_
 refine cw_seq ?_; refine cw_seq ?_; have hX17 : Ext X14 X14 := Ext.refl _; refine cw_plain ?_
 refine pU (.agg #[.int .i64 o.p, .int .i64 o.f, .int .i64 o.lo, .int .i64 o.hi, .int .i64 o.nd, .int .i64 o.tn, .int .i64 o.sl]) (ex_load rfl (by kernel_rfl) (ld24 (bO1_0.1) (bO1_1.1) (bO1_2.1) (bO1_3.1) (bO1_4.1) (bO1_5.1) (bO1_6.1))) ?_
 rcases Bool.eq_false_or_eq_true (Orb.ok o) with hb18 | hb18
 ·
  refine pS (sn_call (f := 56) (args := #[.agg #[.int .i64 o.p, .int .i64 o.f, .int .i64 o.lo, .int .i64 o.hi, .int .i64 o.nd, .int .i64 o.tn, .int .i64 o.sl]]) (by kernel_rfl) ((oValid_r (r := true) _ (hb18)).mono ?_))
  rintro e w19 ⟨rfl, hb⟩
  replace hE := hE.trans hb; replace hX17 := hX17.trans hb; have hs20 := hb.size; clear hb
  refine ⟨_, rfl, ?_⟩
  refine pT (.bool false) ?_; refine pT (.bool false) ?_
  refine pU (.agg #[.int .i64 sp.1, .int .i64 sp.2]) (ex_load rfl (by kernel_rfl) (ld26 ((BoxAt.ext hX17 bO5_0).1) ((BoxAt.ext hX17 bO5_1).1))) ?_
  rcases Bool.eq_false_or_eq_true (Swath.spB sp 300) with hb21 | hb21
  ·
   refine pS (sn_call (f := 57) (args := #[.agg #[.int .i64 sp.1, .int .i64 sp.2], .int .i64 300]) (by kernel_rfl) ((isSpell_r (r := true) sp 300 _ (hb21)).mono ?_))
   rintro e w22 ⟨rfl, hb⟩
   replace hE := hE.trans hb; replace hX17 := hX17.trans hb; have hs23 := hb.size; clear hb
   refine ⟨_, rfl, ?_⟩
   refine pT (.bool false) ?_; refine pT (.bool false) ?_; refine pT (.bool false) ?_; refine pT (.int .i64 mi) ?_
   rcases Bool.eq_false_or_eq_true (Globe.inB mi 1 60) with hb24 | hb24
   ·
    have hq25 := Globe.inB_t.1 hb24
    refine pS (sn_call (f := 43) (args := #[.int .i64 mi, .int .i64 1, .int .i64 60]) (by kernel_rfl) ((swath_isIn_r (r := true) mi 1 60 _ (hb24)).mono ?_))
    rintro e w26 ⟨rfl, hb⟩
    replace hE := hE.trans hb; replace hX17 := hX17.trans hb; have hs27 := hb.size; clear hb
    refine ⟨_, rfl, ?_⟩
    refine pT (.bool false) ?_; refine pT (.bool false) ?_; refine pT (.bool false) ?_; refine pT (.int .i64 wd) ?_
    rcases Bool.eq_false_or_eq_true (Globe.inB wd 0 4) with hb28 | hb28
    ·
     have hq29 := Globe.inB_t.1 hb28
     refine pS (sn_call (f := 43) (args := #[.int .i64 wd, .int .i64 0, .int .i64 4]) (by kernel_rfl) ((swath_isIn_r (r := true) wd 0 4 _ (hb28)).mono ?_))
     rintro e w30 ⟨rfl, hb⟩
     replace hE := hE.trans hb; replace hX17 := hX17.trans hb; have hs31 := hb.size; clear hb
     refine ⟨_, rfl, ?_⟩
     refine pT (.bool false) ?_; refine pT (.bool false) ?_; refine pT (.bool false) ?_
     refine pU (.agg #[.slice a n c]) (ex_load rfl (by kernel_rfl) (ld31 ((BoxAt.ext hX17 bO9_0).1))) ?_
     rcases Bool.eq_false_or_eq_true (v) with hb32 | hb32
     ·
      refine pS (sn_call (f := 33) (args := #[.agg #[.slice a n c]]) (by kernel_rfl) ((Valid_e9 (r := true) _ _ hA (e1.trans hE) hb32).mono ?_))
      rintro e w33 ⟨rfl, hb⟩
      replace hE := hE.trans hb; replace hX17 := hX17.trans hb; have hs34 := hb.size; clear hb
      refine ⟨_, rfl, ?_⟩
      refine pT (.bool false) ?_; refine pT (.bool false) ?_; refine pl_nil ?_; refine qw_then ?_; refine cC7 2 3 5 6 9 10 41 (fun L => ?_)
      refine cw_f (by kernel_rfl) ?_
      refine cw_skip ?_
      refine qw_then ?_; refine cw_seq ?_
      refine cw_label ?_
      refine qw_then ?_; refine cw_seq ?_; refine cw_seq ?_
      exfalso; simp [hb18, hb21, hb24, hb28, hb32] at hno
     ·
      refine pS (sn_call (f := 33) (args := #[.agg #[.slice a n c]]) (by kernel_rfl) ((Valid_e9 (r := false) _ _ hA (e1.trans hE) hb32).mono ?_))
      rintro e w35 ⟨rfl, hb⟩
      replace hE := hE.trans hb; replace hX17 := hX17.trans hb; have hs36 := hb.size; clear hb
      refine ⟨_, rfl, ?_⟩
      refine pT (.bool true) ?_; refine pT (.bool true) ?_; refine pl_nil ?_; refine qw_then ?_; refine cC7 2 3 5 6 9 10 41 (fun L => ?_)
      refine cw_t (by kernel_rfl) ?_
      refine cw_seq ?_; refine cw_plain ?_; refine pT (.agg #[.int .i64 0, .int .i64 0]) ?_
      have bO1_t38 := (BoxAt.ext hX17 bO1_0)
      have bO1_t39 := (BoxAt.ext hX17 bO1_1)
      have bO1_t40 := (BoxAt.ext hX17 bO1_2)
      have bO1_t41 := (BoxAt.ext hX17 bO1_3)
      have bO1_t42 := (BoxAt.ext hX17 bO1_4)
      have bO1_t43 := (BoxAt.ext hX17 bO1_5)
      have bO1_t44 := (BoxAt.ext hX17 bO1_6)
      have bO5_t45 := (BoxAt.ext hX17 bO5_0)
      have bO5_t46 := (BoxAt.ext hX17 bO5_1)
      have bO9_t47 := (BoxAt.ext hX17 bO9_0)
      have bO13_t48 := (BoxAt.ext hX17 bO13_0)
      have bO13_t49 := (BoxAt.ext hX17 bO13_1)
      refine pP (sn_set2 (O := O13) (j := 0) (v := .int .i64 0) (v' := .int .i64 0) (ex_store (p := .pointer (some ⟨O13, 0, none⟩)) (v := .agg #[.int .i64 0, .int .i64 0]) rfl (by kernel_rfl) (by kernel_rfl) (st26 bO13_t48.1 bO13_t48.2 bO13_t49.1 bO13_t49.2)) bO13_t48 bO13_t49 ?_)
      intro X37 ho hv0 hv1 hk; replace hE := ho.ext hE (T (T hs3 (T hs7 hs11)) (Nat.le_of_eq hzO13))
      have q9 := fun (j : Nat) (v : Value) (h : BoxAt _ O1 j v) => ho.box (Nat.ne_of_gt (Nat.lt_of_lt_of_le lt4 (T (T hs7 hs11) (Nat.le_of_eq hzO13)))) h
      replace bO1_t38 := q9 _ _ bO1_t38; replace bO1_t39 := q9 _ _ bO1_t39; replace bO1_t40 := q9 _ _ bO1_t40; replace bO1_t41 := q9 _ _ bO1_t41; replace bO1_t42 := q9 _ _ bO1_t42; replace bO1_t43 := q9 _ _ bO1_t43; replace bO1_t44 := q9 _ _ bO1_t44; clear q9
      have q9 := fun (j : Nat) (v : Value) (h : BoxAt _ O5 j v) => ho.box (Nat.ne_of_gt (Nat.lt_of_lt_of_le lt8 (T hs11 (Nat.le_of_eq hzO13)))) h
      replace bO5_t45 := q9 _ _ bO5_t45; replace bO5_t46 := q9 _ _ bO5_t46; clear q9; replace bO9_t47 := ho.box (Nat.ne_of_gt (Nat.lt_of_lt_of_le lt12 (Nat.le_of_eq hzO13))) bO9_t47; have hs50 : w35.heap.size ≤ X37.heap.size := Nat.le_of_eq ho.size.symm; clear ho hk bO13_t48 bO13_t49; have bO13_t48 := hv0; clear hv0; have bO13_t49 := hv1; clear hv1; refine pT (.int .i64 0) ?_; refine pT (.bool false) ?_; refine pT (.int .i64 80) ?_; refine pl_nil ?_; refine qw_then ?_
      refine cw_ret ?_
      refine qw_then_ret ?_
      refine qw_scope_ret ?_
      refine qw_ret [.agg #[.int .i64 0, .int .i64 0], .int .i64 0, .bool false, .int .i64 80] rfl ⟨⟨_, by kernel_rfl, res_ld (ld26 (bO13_t48.1) (bO13_t49.1))⟩, (by kernel_rfl), (by kernel_rfl), (by kernel_rfl), trivial⟩ ?_
      exact ⟨rfl, hE⟩
    ·
     refine pS (sn_call (f := 43) (args := #[.int .i64 wd, .int .i64 0, .int .i64 4]) (by kernel_rfl) ((swath_isIn_r (r := false) wd 0 4 _ (hb28)).mono ?_))
     rintro e w51 ⟨rfl, hb⟩
     replace hE := hE.trans hb; replace hX17 := hX17.trans hb; have hs52 := hb.size; clear hb
     refine ⟨_, rfl, ?_⟩
     refine pT (.bool true) ?_; refine pT (.bool true) ?_; refine pT (.bool true) ?_; refine pK ?_; refine pK ?_; refine pK ?_; refine pT (.bool true) ?_; refine pl_nil ?_; refine qw_then ?_; refine cC7 2 3 5 6 9 10 41 (fun L => ?_)
     refine cw_t (by kernel_rfl) ?_
     refine cw_seq ?_; refine cw_plain ?_; refine pT (.agg #[.int .i64 0, .int .i64 0]) ?_
     have bO1_t54 := (BoxAt.ext hX17 bO1_0)
     have bO1_t55 := (BoxAt.ext hX17 bO1_1)
     have bO1_t56 := (BoxAt.ext hX17 bO1_2)
     have bO1_t57 := (BoxAt.ext hX17 bO1_3)
     have bO1_t58 := (BoxAt.ext hX17 bO1_4)
     have bO1_t59 := (BoxAt.ext hX17 bO1_5)
     have bO1_t60 := (BoxAt.ext hX17 bO1_6)
     have bO5_t61 := (BoxAt.ext hX17 bO5_0)
     have bO5_t62 := (BoxAt.ext hX17 bO5_1)
     have bO9_t63 := (BoxAt.ext hX17 bO9_0)
     have bO13_t64 := (BoxAt.ext hX17 bO13_0)
     have bO13_t65 := (BoxAt.ext hX17 bO13_1)
     refine pP (sn_set2 (O := O13) (j := 0) (v := .int .i64 0) (v' := .int .i64 0) (ex_store (p := .pointer (some ⟨O13, 0, none⟩)) (v := .agg #[.int .i64 0, .int .i64 0]) rfl (by kernel_rfl) (by kernel_rfl) (st26 bO13_t64.1 bO13_t64.2 bO13_t65.1 bO13_t65.2)) bO13_t64 bO13_t65 ?_)
     intro X53 ho hv0 hv1 hk; replace hE := ho.ext hE (T (T hs3 (T hs7 hs11)) (Nat.le_of_eq hzO13))
     have q9 := fun (j : Nat) (v : Value) (h : BoxAt _ O1 j v) => ho.box (Nat.ne_of_gt (Nat.lt_of_lt_of_le lt4 (T (T hs7 hs11) (Nat.le_of_eq hzO13)))) h
     replace bO1_t54 := q9 _ _ bO1_t54; replace bO1_t55 := q9 _ _ bO1_t55; replace bO1_t56 := q9 _ _ bO1_t56; replace bO1_t57 := q9 _ _ bO1_t57; replace bO1_t58 := q9 _ _ bO1_t58; replace bO1_t59 := q9 _ _ bO1_t59; replace bO1_t60 := q9 _ _ bO1_t60; clear q9
     have q9 := fun (j : Nat) (v : Value) (h : BoxAt _ O5 j v) => ho.box (Nat.ne_of_gt (Nat.lt_of_lt_of_le lt8 (T hs11 (Nat.le_of_eq hzO13)))) h
     replace bO5_t61 := q9 _ _ bO5_t61; replace bO5_t62 := q9 _ _ bO5_t62; clear q9; replace bO9_t63 := ho.box (Nat.ne_of_gt (Nat.lt_of_lt_of_le lt12 (Nat.le_of_eq hzO13))) bO9_t63; have hs66 : w51.heap.size ≤ X53.heap.size := Nat.le_of_eq ho.size.symm; clear ho hk bO13_t64 bO13_t65; have bO13_t64 := hv0; clear hv0; have bO13_t65 := hv1; clear hv1; refine pT (.int .i64 0) ?_; refine pT (.bool false) ?_; refine pT (.int .i64 80) ?_; refine pl_nil ?_; refine qw_then ?_
     refine cw_ret ?_
     refine qw_then_ret ?_
     refine qw_scope_ret ?_
     refine qw_ret [.agg #[.int .i64 0, .int .i64 0], .int .i64 0, .bool false, .int .i64 80] rfl ⟨⟨_, by kernel_rfl, res_ld (ld26 (bO13_t64.1) (bO13_t65.1))⟩, (by kernel_rfl), (by kernel_rfl), (by kernel_rfl), trivial⟩ ?_
     exact ⟨rfl, hE⟩
   ·
    refine pS (sn_call (f := 43) (args := #[.int .i64 mi, .int .i64 1, .int .i64 60]) (by kernel_rfl) ((swath_isIn_r (r := false) mi 1 60 _ (hb24)).mono ?_))
    rintro e w67 ⟨rfl, hb⟩
    replace hE := hE.trans hb; replace hX17 := hX17.trans hb; have hs68 := hb.size; clear hb
    refine ⟨_, rfl, ?_⟩
    refine pT (.bool true) ?_; refine pT (.bool true) ?_; refine pT (.bool true) ?_; refine pK ?_; refine pK ?_; refine pK ?_; refine pT (.bool true) ?_; refine pT (.bool true) ?_; refine pK ?_; refine pK ?_; refine pK ?_; refine pT (.bool true) ?_; refine pl_nil ?_; refine qw_then ?_; refine cC7 2 3 5 6 9 10 41 (fun L => ?_)
    refine cw_t (by kernel_rfl) ?_
    refine cw_seq ?_; refine cw_plain ?_; refine pT (.agg #[.int .i64 0, .int .i64 0]) ?_
    have bO1_t70 := (BoxAt.ext hX17 bO1_0)
    have bO1_t71 := (BoxAt.ext hX17 bO1_1)
    have bO1_t72 := (BoxAt.ext hX17 bO1_2)
    have bO1_t73 := (BoxAt.ext hX17 bO1_3)
    have bO1_t74 := (BoxAt.ext hX17 bO1_4)
    have bO1_t75 := (BoxAt.ext hX17 bO1_5)
    have bO1_t76 := (BoxAt.ext hX17 bO1_6)
    have bO5_t77 := (BoxAt.ext hX17 bO5_0)
    have bO5_t78 := (BoxAt.ext hX17 bO5_1)
    have bO9_t79 := (BoxAt.ext hX17 bO9_0)
    have bO13_t80 := (BoxAt.ext hX17 bO13_0)
    have bO13_t81 := (BoxAt.ext hX17 bO13_1)
    refine pP (sn_set2 (O := O13) (j := 0) (v := .int .i64 0) (v' := .int .i64 0) (ex_store (p := .pointer (some ⟨O13, 0, none⟩)) (v := .agg #[.int .i64 0, .int .i64 0]) rfl (by kernel_rfl) (by kernel_rfl) (st26 bO13_t80.1 bO13_t80.2 bO13_t81.1 bO13_t81.2)) bO13_t80 bO13_t81 ?_)
    intro X69 ho hv0 hv1 hk; replace hE := ho.ext hE (T (T hs3 (T hs7 hs11)) (Nat.le_of_eq hzO13))
    have q9 := fun (j : Nat) (v : Value) (h : BoxAt _ O1 j v) => ho.box (Nat.ne_of_gt (Nat.lt_of_lt_of_le lt4 (T (T hs7 hs11) (Nat.le_of_eq hzO13)))) h
    replace bO1_t70 := q9 _ _ bO1_t70; replace bO1_t71 := q9 _ _ bO1_t71; replace bO1_t72 := q9 _ _ bO1_t72; replace bO1_t73 := q9 _ _ bO1_t73; replace bO1_t74 := q9 _ _ bO1_t74; replace bO1_t75 := q9 _ _ bO1_t75; replace bO1_t76 := q9 _ _ bO1_t76; clear q9
    have q9 := fun (j : Nat) (v : Value) (h : BoxAt _ O5 j v) => ho.box (Nat.ne_of_gt (Nat.lt_of_lt_of_le lt8 (T hs11 (Nat.le_of_eq hzO13)))) h
    replace bO5_t77 := q9 _ _ bO5_t77; replace bO5_t78 := q9 _ _ bO5_t78; clear q9; replace bO9_t79 := ho.box (Nat.ne_of_gt (Nat.lt_of_lt_of_le lt12 (Nat.le_of_eq hzO13))) bO9_t79; have hs82 : w67.heap.size ≤ X69.heap.size := Nat.le_of_eq ho.size.symm; clear ho hk bO13_t80 bO13_t81; have bO13_t80 := hv0; clear hv0; have bO13_t81 := hv1; clear hv1; refine pT (.int .i64 0) ?_; refine pT (.bool false) ?_; refine pT (.int .i64 80) ?_; refine pl_nil ?_; refine qw_then ?_
    refine cw_ret ?_
    refine qw_then_ret ?_
    refine qw_scope_ret ?_
    refine qw_ret [.agg #[.int .i64 0, .int .i64 0], .int .i64 0, .bool false, .int .i64 80] rfl ⟨⟨_, by kernel_rfl, res_ld (ld26 (bO13_t80.1) (bO13_t81.1))⟩, (by kernel_rfl), (by kernel_rfl), (by kernel_rfl), trivial⟩ ?_
    exact ⟨rfl, hE⟩
  ·
   refine pS (sn_call (f := 57) (args := #[.agg #[.int .i64 sp.1, .int .i64 sp.2], .int .i64 300]) (by kernel_rfl) ((isSpell_r (r := false) sp 300 _ (hb21)).mono ?_))
   rintro e w83 ⟨rfl, hb⟩
   replace hE := hE.trans hb; replace hX17 := hX17.trans hb; have hs84 := hb.size; clear hb
   refine ⟨_, rfl, ?_⟩
   refine pT (.bool true) ?_; refine pT (.bool true) ?_; refine pT (.bool true) ?_; refine pK ?_; refine pK ?_; refine pK ?_; refine pT (.bool true) ?_; refine pT (.bool true) ?_; refine pK ?_; refine pK ?_; refine pK ?_; refine pT (.bool true) ?_; refine pT (.bool true) ?_; refine pK ?_; refine pK ?_; refine pK ?_; refine pT (.bool true) ?_; refine pl_nil ?_; refine qw_then ?_; refine cC7 2 3 5 6 9 10 41 (fun L => ?_)
   refine cw_t (by kernel_rfl) ?_
   refine cw_seq ?_; refine cw_plain ?_; refine pT (.agg #[.int .i64 0, .int .i64 0]) ?_
   have bO1_t86 := (BoxAt.ext hX17 bO1_0)
   have bO1_t87 := (BoxAt.ext hX17 bO1_1)
   have bO1_t88 := (BoxAt.ext hX17 bO1_2)
   have bO1_t89 := (BoxAt.ext hX17 bO1_3)
   have bO1_t90 := (BoxAt.ext hX17 bO1_4)
   have bO1_t91 := (BoxAt.ext hX17 bO1_5)
   have bO1_t92 := (BoxAt.ext hX17 bO1_6)
   have bO5_t93 := (BoxAt.ext hX17 bO5_0)
   have bO5_t94 := (BoxAt.ext hX17 bO5_1)
   have bO9_t95 := (BoxAt.ext hX17 bO9_0)
   have bO13_t96 := (BoxAt.ext hX17 bO13_0)
   have bO13_t97 := (BoxAt.ext hX17 bO13_1)
   refine pP (sn_set2 (O := O13) (j := 0) (v := .int .i64 0) (v' := .int .i64 0) (ex_store (p := .pointer (some ⟨O13, 0, none⟩)) (v := .agg #[.int .i64 0, .int .i64 0]) rfl (by kernel_rfl) (by kernel_rfl) (st26 bO13_t96.1 bO13_t96.2 bO13_t97.1 bO13_t97.2)) bO13_t96 bO13_t97 ?_)
   intro X85 ho hv0 hv1 hk; replace hE := ho.ext hE (T (T hs3 (T hs7 hs11)) (Nat.le_of_eq hzO13))
   have q9 := fun (j : Nat) (v : Value) (h : BoxAt _ O1 j v) => ho.box (Nat.ne_of_gt (Nat.lt_of_lt_of_le lt4 (T (T hs7 hs11) (Nat.le_of_eq hzO13)))) h
   replace bO1_t86 := q9 _ _ bO1_t86; replace bO1_t87 := q9 _ _ bO1_t87; replace bO1_t88 := q9 _ _ bO1_t88; replace bO1_t89 := q9 _ _ bO1_t89; replace bO1_t90 := q9 _ _ bO1_t90; replace bO1_t91 := q9 _ _ bO1_t91; replace bO1_t92 := q9 _ _ bO1_t92; clear q9
   have q9 := fun (j : Nat) (v : Value) (h : BoxAt _ O5 j v) => ho.box (Nat.ne_of_gt (Nat.lt_of_lt_of_le lt8 (T hs11 (Nat.le_of_eq hzO13)))) h
   replace bO5_t93 := q9 _ _ bO5_t93; replace bO5_t94 := q9 _ _ bO5_t94; clear q9; replace bO9_t95 := ho.box (Nat.ne_of_gt (Nat.lt_of_lt_of_le lt12 (Nat.le_of_eq hzO13))) bO9_t95; have hs98 : w83.heap.size ≤ X85.heap.size := Nat.le_of_eq ho.size.symm; clear ho hk bO13_t96 bO13_t97; have bO13_t96 := hv0; clear hv0; have bO13_t97 := hv1; clear hv1; refine pT (.int .i64 0) ?_; refine pT (.bool false) ?_; refine pT (.int .i64 80) ?_; refine pl_nil ?_; refine qw_then ?_
   refine cw_ret ?_
   refine qw_then_ret ?_
   refine qw_scope_ret ?_
   refine qw_ret [.agg #[.int .i64 0, .int .i64 0], .int .i64 0, .bool false, .int .i64 80] rfl ⟨⟨_, by kernel_rfl, res_ld (ld26 (bO13_t96.1) (bO13_t97.1))⟩, (by kernel_rfl), (by kernel_rfl), (by kernel_rfl), trivial⟩ ?_
   exact ⟨rfl, hE⟩
 ·
  refine pS (sn_call (f := 56) (args := #[.agg #[.int .i64 o.p, .int .i64 o.f, .int .i64 o.lo, .int .i64 o.hi, .int .i64 o.nd, .int .i64 o.tn, .int .i64 o.sl]]) (by kernel_rfl) ((oValid_r (r := false) _ (hb18)).mono ?_))
  rintro e w99 ⟨rfl, hb⟩
  replace hE := hE.trans hb; replace hX17 := hX17.trans hb; have hs100 := hb.size; clear hb
  refine ⟨_, rfl, ?_⟩
  refine pT (.bool true) ?_; refine pT (.bool true) ?_; refine pK ?_; refine pK ?_; refine pK ?_; refine pT (.bool true) ?_; refine pT (.bool true) ?_; refine pK ?_; refine pK ?_; refine pK ?_; refine pT (.bool true) ?_; refine pT (.bool true) ?_; refine pK ?_; refine pK ?_; refine pK ?_; refine pT (.bool true) ?_; refine pT (.bool true) ?_; refine pK ?_; refine pK ?_; refine pK ?_; refine pT (.bool true) ?_; refine pl_nil ?_; refine qw_then ?_; refine cC7 2 3 5 6 9 10 41 (fun L => ?_)
  refine cw_t (by kernel_rfl) ?_
  refine cw_seq ?_; refine cw_plain ?_; refine pT (.agg #[.int .i64 0, .int .i64 0]) ?_
  have bO1_t102 := (BoxAt.ext hX17 bO1_0)
  have bO1_t103 := (BoxAt.ext hX17 bO1_1)
  have bO1_t104 := (BoxAt.ext hX17 bO1_2)
  have bO1_t105 := (BoxAt.ext hX17 bO1_3)
  have bO1_t106 := (BoxAt.ext hX17 bO1_4)
  have bO1_t107 := (BoxAt.ext hX17 bO1_5)
  have bO1_t108 := (BoxAt.ext hX17 bO1_6)
  have bO5_t109 := (BoxAt.ext hX17 bO5_0)
  have bO5_t110 := (BoxAt.ext hX17 bO5_1)
  have bO9_t111 := (BoxAt.ext hX17 bO9_0)
  have bO13_t112 := (BoxAt.ext hX17 bO13_0)
  have bO13_t113 := (BoxAt.ext hX17 bO13_1)
  refine pP (sn_set2 (O := O13) (j := 0) (v := .int .i64 0) (v' := .int .i64 0) (ex_store (p := .pointer (some ⟨O13, 0, none⟩)) (v := .agg #[.int .i64 0, .int .i64 0]) rfl (by kernel_rfl) (by kernel_rfl) (st26 bO13_t112.1 bO13_t112.2 bO13_t113.1 bO13_t113.2)) bO13_t112 bO13_t113 ?_)
  intro X101 ho hv0 hv1 hk; replace hE := ho.ext hE (T (T hs3 (T hs7 hs11)) (Nat.le_of_eq hzO13))
  have q9 := fun (j : Nat) (v : Value) (h : BoxAt _ O1 j v) => ho.box (Nat.ne_of_gt (Nat.lt_of_lt_of_le lt4 (T (T hs7 hs11) (Nat.le_of_eq hzO13)))) h
  replace bO1_t102 := q9 _ _ bO1_t102; replace bO1_t103 := q9 _ _ bO1_t103; replace bO1_t104 := q9 _ _ bO1_t104; replace bO1_t105 := q9 _ _ bO1_t105; replace bO1_t106 := q9 _ _ bO1_t106; replace bO1_t107 := q9 _ _ bO1_t107; replace bO1_t108 := q9 _ _ bO1_t108; clear q9
  have q9 := fun (j : Nat) (v : Value) (h : BoxAt _ O5 j v) => ho.box (Nat.ne_of_gt (Nat.lt_of_lt_of_le lt8 (T hs11 (Nat.le_of_eq hzO13)))) h
  replace bO5_t109 := q9 _ _ bO5_t109; replace bO5_t110 := q9 _ _ bO5_t110; clear q9; replace bO9_t111 := ho.box (Nat.ne_of_gt (Nat.lt_of_lt_of_le lt12 (Nat.le_of_eq hzO13))) bO9_t111; have hs114 : w99.heap.size ≤ X101.heap.size := Nat.le_of_eq ho.size.symm; clear ho hk bO13_t112 bO13_t113; have bO13_t112 := hv0; clear hv0; have bO13_t113 := hv1; clear hv1; refine pT (.int .i64 0) ?_; refine pT (.bool false) ?_; refine pT (.int .i64 80) ?_; refine pl_nil ?_; refine qw_then ?_
  refine cw_ret ?_
  refine qw_then_ret ?_
  refine qw_scope_ret ?_
  refine qw_ret [.agg #[.int .i64 0, .int .i64 0], .int .i64 0, .bool false, .int .i64 80] rfl ⟨⟨_, by kernel_rfl, res_ld (ld26 (bO13_t112.1) (bO13_t113.1))⟩, (by kernel_rfl), (by kernel_rfl), (by kernel_rfl), trivial⟩ ?_
  exact ⟨rfl, hE⟩

end Go.Proofs.Ytdjjkhefdalokaa
