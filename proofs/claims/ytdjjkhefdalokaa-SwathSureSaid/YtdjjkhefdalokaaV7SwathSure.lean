/- The statement SwathSure: for every input that the row lists, the law returns true, and every argument reads as it read before. -/
import Derived.Test.YtdjjkhefdalokaaV6SwathSure
/- The walk of SwathSure. -/
namespace Go.Proofs.Ytdjjkhefdalokaa
open Go.RowKit

/-- What all of the first i areas have: in the box at O; before the first there is none. -/
def NoneAt (O P : Nat) (A : Nat → List Int) (i : Nat) (W : World) : Prop :=
  (i = 0 ∧ BoxAt W O 0 (.slice none 0 0)) ∨ (0 < i ∧ ∃ C k : Nat, C ≠ O ∧ C ≠ P ∧ BoxAt W O 0 (.slice (some ⟨C, 0, none⟩) 24 k) ∧ RowsAt W C (Swath.foldM A i))
set_option maxRecDepth 1000000 in
set_option maxHeartbeats 4000000 in
theorem SwathSure_w (x0 x1 x2 x3 x4 x5 x6 y0 y1 lk : Int) (ix0 : IsI x0) (ix1 : IsI x1) (ix2 : IsI x2) (ix3 : IsI x3) (ix4 : IsI x4) (ix5 : IsI x5) (ix6 : IsI x6) (iy0 : IsI y0) (iy1 : IsI y1) (ilk : IsI lk) (w : World) : Calls Try.prog 8 #[.agg #[.int .i64 x0, .int .i64 x1, .int .i64 x2, .int .i64 x3, .int .i64 x4, .int .i64 x5, .int .i64 x6], .agg #[.int .i64 y0, .int .i64 y1], .int .i64 lk] w fun e w' => e = .returned (.bool true) ∧ Ext w w' := by
  refine calls_cw 138 [(2, .int .i64 (lk : Int)), (1, .agg #[.int .i64 (y0 : Int), .int .i64 (y1 : Int)]), (0, .agg #[.int .i64 (x0 : Int), .int .i64 (x1 : Int), .int .i64 (x2 : Int), .int .i64 (x3 : Int), .int .i64 (x4 : Int), .int .i64 (x5 : Int), .int .i64 (x6 : Int)])] Try.func8 rfl Try.ntmps8 (by kernel_rfl) (by kernel_rfl) (fun L => ?_)
  have hE : Ext w w := Ext.refl w
  refine cw_seq ?_; refine cw_plain ?_
  refine pS (sn_new (us := #[.int .i64 (x0 : Int), .int .i64 (x1 : Int), .int .i64 (x2 : Int), .int .i64 (x3 : Int), .int .i64 (x4 : Int), .int .i64 (x5 : Int), .int .i64 (x6 : Int)]) (t := 22) (by kernel_rfl) ?_)
  intro O1 X2 hO hOs hb hbx
  have hzO1 := hO; have hyO1 := hOs; clear hO hOs
  have bO1_0 : BoxAt X2 O1 0 (.int .i64 (x0 : Int)) := hbx 0 _ rfl
  have bO1_1 : BoxAt X2 O1 1 (.int .i64 (x1 : Int)) := hbx 1 _ rfl
  have bO1_2 : BoxAt X2 O1 2 (.int .i64 (x2 : Int)) := hbx 2 _ rfl
  have bO1_3 : BoxAt X2 O1 3 (.int .i64 (x3 : Int)) := hbx 3 _ rfl
  have bO1_4 : BoxAt X2 O1 4 (.int .i64 (x4 : Int)) := hbx 4 _ rfl
  have bO1_5 : BoxAt X2 O1 5 (.int .i64 (x5 : Int)) := hbx 5 _ rfl
  have bO1_6 : BoxAt X2 O1 6 (.int .i64 (x6 : Int)) := hbx 6 _ rfl
  clear hbx; replace hE := hE.trans hb; have hs3 := hb.size; clear hb; have lt4 := bO1_0.lt
  refine pS (sn_new (us := #[.int .i64 (y0 : Int), .int .i64 (y1 : Int)]) (t := 35) (by kernel_rfl) ?_)
  intro O5 X6 hO hOs hb hbx
  have hzO5 := hO; have hyO5 := hOs; clear hO hOs
  have bO5_0 : BoxAt X6 O5 0 (.int .i64 (y0 : Int)) := hbx 0 _ rfl
  have bO5_1 : BoxAt X6 O5 1 (.int .i64 (y1 : Int)) := hbx 1 _ rfl
  clear hbx; replace hE := hE.trans hb; replace bO1_0 := BoxAt.ext hb bO1_0; replace bO1_1 := BoxAt.ext hb bO1_1; replace bO1_2 := BoxAt.ext hb bO1_2; replace bO1_3 := BoxAt.ext hb bO1_3; replace bO1_4 := BoxAt.ext hb bO1_4; replace bO1_5 := BoxAt.ext hb bO1_5; replace bO1_6 := BoxAt.ext hb bO1_6; have hs7 := hb.size; clear hb; have lt8 := bO5_0.lt
  refine pT (.bool false) ?_
  refine pl_nil ?_; refine qw_then ?_; refine cw_seq ?_
  have hX9 : Ext X6 X6 := Ext.refl _
  refine cw_plain ?_
  refine pS (sn_call (f := 9) (args := #[]) (by kernel_rfl) ((saneS_c _).mono ?_))
  rintro e w10 ⟨rfl, hb⟩
  replace hE := hE.trans hb; replace hX9 := hX9.trans hb; have hs11 := hb.size; clear hb
  refine ⟨_, rfl, ?_⟩
  refine pT (.bool true) ?_
  refine pl_nil ?_; refine qw_then ?_; refine cw_seq ?_; refine cw_seq ?_; refine cw_plain ?_
  refine pT (.bool true) ?_
  refine pT (.bool false) ?_
  refine pl_nil ?_; refine qw_then ?_
  refine cw_f (by kernel_rfl) ?_
  refine cw_skip ?_
  refine qw_then ?_; refine cw_seq ?_; refine cw_plain ?_
  refine pl_take (.agg #[.int .i64 (x0 : Int), .int .i64 (x1 : Int), .int .i64 (x2 : Int), .int .i64 (x3 : Int), .int .i64 (x4 : Int), .int .i64 (x5 : Int), .int .i64 (x6 : Int)]) rfl (by kernel_rfl) (by kernel_rfl) (by kernel_rfl) (ex_load rfl (by kernel_rfl) (ld22 ((BoxAt.ext hX9 bO1_0).1) ((BoxAt.ext hX9 bO1_1).1) ((BoxAt.ext hX9 bO1_2).1) ((BoxAt.ext hX9 bO1_3).1) ((BoxAt.ext hX9 bO1_4).1) ((BoxAt.ext hX9 bO1_5).1) ((BoxAt.ext hX9 bO1_6).1))) ?_
  refine pS (sn_call (f := 11) (args := #[.agg #[.int .i64 (x0 : Int), .int .i64 (x1 : Int), .int .i64 (x2 : Int), .int .i64 (x3 : Int), .int .i64 (x4 : Int), .int .i64 (x5 : Int), .int .i64 (x6 : Int)]]) (by kernel_rfl) ((Made7_c _ _ _ _ _ _ _ _ ix0 ix1 ix2 ix3 ix4 ix5 ix6).mono ?_))
  rintro e w12 ⟨o, rfl, hok, hsl, hb⟩
  replace hE := hE.trans hb; replace hX9 := hX9.trans hb; have hs13 := hb.size; clear hb
  have hq0 := Orb.ok_t.1 hok
  refine ⟨_, rfl, ?_⟩
  refine pS (sn_new (us := #[.int .i64 0, .int .i64 0, .int .i64 0, .int .i64 0, .int .i64 0, .int .i64 0, .int .i64 0]) (t := 24) (by kernel_rfl) ?_)
  intro O14 X15 hO hOs hb hbx
  have hzO14 := hO; have hyO14 := hOs; clear hO hOs
  have bO14_0 : BoxAt X15 O14 0 (.int .i64 0) := hbx 0 _ rfl
  have bO14_1 : BoxAt X15 O14 1 (.int .i64 0) := hbx 1 _ rfl
  have bO14_2 : BoxAt X15 O14 2 (.int .i64 0) := hbx 2 _ rfl
  have bO14_3 : BoxAt X15 O14 3 (.int .i64 0) := hbx 3 _ rfl
  have bO14_4 : BoxAt X15 O14 4 (.int .i64 0) := hbx 4 _ rfl
  have bO14_5 : BoxAt X15 O14 5 (.int .i64 0) := hbx 5 _ rfl
  have bO14_6 : BoxAt X15 O14 6 (.int .i64 0) := hbx 6 _ rfl
  clear hbx; replace hE := hE.trans hb; replace hX9 := hX9.trans hb; have hs16 := hb.size; clear hb; have lt17 := bO14_0.lt
  refine pl_put rfl (by kernel_rfl) (by kernel_rfl) (sn_setK7 (O := O14) (j := 0) (v0 := .int .i64 (o.p : Int)) (v1 := .int .i64 (o.f : Int)) (v2 := .int .i64 (o.lo : Int)) (v3 := .int .i64 (o.hi : Int)) (v4 := .int .i64 (o.nd : Int)) (v5 := .int .i64 (o.tn : Int)) (v6 := .int .i64 (o.sl : Int)) (ex_store (p := .pointer (some ⟨O14, 0, none⟩)) (v := .agg #[.int .i64 (o.p : Int), .int .i64 (o.f : Int), .int .i64 (o.lo : Int), .int .i64 (o.hi : Int), .int .i64 (o.nd : Int), .int .i64 (o.tn : Int), .int .i64 (o.sl : Int)]) rfl (by kernel_rfl) (by kernel_rfl) (st24 bO14_0.1 bO14_0.2 bO14_1.1 bO14_1.2 bO14_2.1 bO14_2.2 bO14_3.1 bO14_3.2 bO14_4.1 bO14_4.2 bO14_5.1 bO14_5.2 bO14_6.1 bO14_6.2)) bO14_0 bO14_1 bO14_2 bO14_3 bO14_4 bO14_5 bO14_6 ?_)
  intro X18 ho hv0 hv1 hv2 hv3 hv4 hv5 hv6 hk
  replace hE := ho.ext hE (T (T hs3 (T hs7 (T hs11 hs13))) (Nat.le_of_eq hzO14)); replace hX9 := ho.ext hX9 (T (T hs11 hs13) (Nat.le_of_eq hzO14))
  have hs19 : X15.heap.size ≤ X18.heap.size := Nat.le_of_eq ho.size.symm
  clear ho hk bO14_0 bO14_1 bO14_2 bO14_3 bO14_4 bO14_5 bO14_6
  have bO14_0 := hv0; clear hv0
  have bO14_1 := hv1; clear hv1
  have bO14_2 := hv2; clear hv2
  have bO14_3 := hv3; clear hv3
  have bO14_4 := hv4; clear hv4
  have bO14_5 := hv5; clear hv5
  have bO14_6 := hv6; clear hv6
  refine pl_nil ?_; refine qw_then ?_; refine cw_seq ?_
  have hX20 : Ext X18 X18 := Ext.refl _
  refine cw_plain ?_
  refine pl_take (.agg #[.int .i64 (y0 : Int), .int .i64 (y1 : Int)]) rfl (by kernel_rfl) (by kernel_rfl) (by kernel_rfl) (ex_load rfl (by kernel_rfl) (ld35 ((BoxAt.ext (hX9.trans hX20) bO5_0).1) ((BoxAt.ext (hX9.trans hX20) bO5_1).1))) ?_
  refine pS (sn_call (f := 12) (args := #[.agg #[.int .i64 (y0 : Int), .int .i64 (y1 : Int)]]) (by kernel_rfl) ((Shot_c _ _ _ iy0 iy1).mono ?_))
  rintro e w21 ⟨s, rfl, hsp30, hsp1, hb⟩
  replace hE := hE.trans hb; replace hX20 := hX20.trans hb; have hs22 := hb.size; clear hb
  have q2 := Swath.spB_t.1 hsp30
  refine ⟨_, rfl, ?_⟩
  refine pS (sn_new (us := #[.int .i64 0, .int .i64 0]) (t := 26) (by kernel_rfl) ?_)
  intro O23 X24 hO hOs hb hbx
  have hzO23 := hO; have hyO23 := hOs; clear hO hOs
  have bO23_0 : BoxAt X24 O23 0 (.int .i64 0) := hbx 0 _ rfl
  have bO23_1 : BoxAt X24 O23 1 (.int .i64 0) := hbx 1 _ rfl
  clear hbx; replace hE := hE.trans hb; replace hX20 := hX20.trans hb; have hs25 := hb.size; clear hb; have lt26 := bO23_0.lt
  refine pl_put rfl (by kernel_rfl) (by kernel_rfl) (sn_set2 (O := O23) (j := 0) (v := .int .i64 (s.1 : Int)) (v' := .int .i64 (s.2 : Int)) (ex_store (p := .pointer (some ⟨O23, 0, none⟩)) (v := .agg #[.int .i64 (s.1 : Int), .int .i64 (s.2 : Int)]) rfl (by kernel_rfl) (by kernel_rfl) (st26 bO23_0.1 bO23_0.2 bO23_1.1 bO23_1.2)) bO23_0 bO23_1 ?_)
  intro X27 ho hv0 hv1 hk
  replace hE := ho.ext hE (T (T hs3 (T hs7 (T hs11 (T hs13 (T hs16 (T hs19 hs22)))))) (Nat.le_of_eq hzO23)); replace hX20 := ho.ext hX20 (T hs22 (Nat.le_of_eq hzO23))
  have hs28 : X24.heap.size ≤ X27.heap.size := Nat.le_of_eq ho.size.symm
  clear ho hk bO23_0 bO23_1
  have bO23_0 := hv0; clear hv0
  have bO23_1 := hv1; clear hv1
  refine pl_nil ?_; refine qw_then ?_
  refine cw_clean [2, 7, 8, 9] (ws' := [(2, .int .i64 (lk : Int)), (7, .bool true), (8, .pointer (some ⟨O14, 0, none⟩)), (9, .pointer (some ⟨O23, 0, none⟩))]) (by kernel_rfl) (fun L => ?_)
  refine cw_seq ?_; refine cw_plain ?_
  refine pT (.int .i64 (lk : Int)) ?_
  refine pS (sn_call (f := 13) (args := #[.int .i64 (lk : Int), .int .i64 9]) (by kernel_rfl) ((pickL_n _ (9) _ ilk (by omega) (by omega)).mono ?_))
  rintro e w' ⟨pk30, rfl, pk30l, -, rfl⟩
  refine ⟨_, rfl, ?_⟩
  refine pl_take (.int .i64 ((((pk30 : Nat) : Int)) - 4 : Int)) rfl (by kernel_rfl) (by kernel_rfl) (by kernel_rfl) (ev_wrap (by kernel_rfl) (by omega) (by omega)) ?_
  refine pT (.int .i64 ((((pk30 : Nat) : Int)) - 4 : Int)) ?_
  refine pl_nil ?_; refine qw_then ?_; refine cw_seq ?_; refine cw_plain ?_
  refine pl_take (.agg #[.int .i64 (o.p : Int), .int .i64 (o.f : Int), .int .i64 (o.lo : Int), .int .i64 (o.hi : Int), .int .i64 (o.nd : Int), .int .i64 (o.tn : Int), .int .i64 (o.sl : Int)]) rfl (by kernel_rfl) (by kernel_rfl) (by kernel_rfl) (ex_load rfl (by kernel_rfl) (ld24 ((BoxAt.ext hX20 bO14_0).1) ((BoxAt.ext hX20 bO14_1).1) ((BoxAt.ext hX20 bO14_2).1) ((BoxAt.ext hX20 bO14_3).1) ((BoxAt.ext hX20 bO14_4).1) ((BoxAt.ext hX20 bO14_5).1) ((BoxAt.ext hX20 bO14_6).1))) ?_
  refine pl_take (.agg #[.int .i64 (s.1 : Int), .int .i64 (s.2 : Int)]) rfl (by kernel_rfl) (by kernel_rfl) (by kernel_rfl) (ex_load rfl (by kernel_rfl) (ld26 (bO23_0.1) (bO23_1.1))) ?_
  refine pT (.int .i64 ((((pk30 : Nat) : Int)) - 4 : Int)) ?_
  refine pS (sn_call (f := 17) (args := #[.agg #[.int .i64 (o.p : Int), .int .i64 (o.f : Int), .int .i64 (o.lo : Int), .int .i64 (o.hi : Int), .int .i64 (o.nd : Int), .int .i64 (o.tn : Int), .int .i64 (o.sl : Int)], .agg #[.int .i64 (s.1 : Int), .int .i64 (s.2 : Int)], .int .i64 ((((pk30 : Nat) : Int)) - 4 : Int)]) (by kernel_rfl) ((Strip_y (o := o) (s := s) (lk := (((pk30 : Nat) : Int)) - 4) _ (Swath.shB_t.2 ⟨hok, ⟨by first | omega | (simp only []; omega), by first | omega | (simp only []; omega), by first | omega | (simp only []; omega), by first | omega | (simp only []; omega)⟩, by omega, by omega⟩)).mono ?_))
  rintro e w40 ⟨B31, g32, k33, k34, rfl, hn35, hn36, hne37, hr38, hr39, hb⟩
  replace hE := hE.trans hb; replace hX20 := hX20.trans hb; replace bO23_0 := BoxAt.ext hb bO23_0; replace bO23_1 := BoxAt.ext hb bO23_1; have hs41 := hb.size; clear hb; have lt42 := hr38.lt; have lt43 := hr39.lt
  have hne37h := Lib.hid hne37
  refine ⟨_, rfl, ?_⟩
  refine pT (.tuple #[.agg #[.slice (some ⟨B31, 0, none⟩) 24 k33, .slice (some ⟨g32, 0, none⟩) 24 k34], .int .i64 0]) ?_
  refine pT (.agg #[.slice (some ⟨B31, 0, none⟩) 24 k33, .slice (some ⟨g32, 0, none⟩) 24 k34]) ?_
  refine pT (.int .i64 0) ?_
  refine pS (sn_new (us := #[.slice none 0 0, .slice none 0 0]) (t := 44) (by kernel_rfl) ?_)
  intro O44 X45 hO hOs hb hbx
  have hzO44 := hO; have hyO44 := hOs; clear hO hOs
  have bO44_0 : BoxAt X45 O44 0 (.slice none 0 0) := hbx 0 _ rfl
  have bO44_1 : BoxAt X45 O44 1 (.slice none 0 0) := hbx 1 _ rfl
  clear hbx; replace hE := hE.trans hb; replace hX20 := hX20.trans hb; replace bO23_0 := BoxAt.ext hb bO23_0; replace bO23_1 := BoxAt.ext hb bO23_1; replace hr38 := hr38.ext hb; replace hr39 := hr39.ext hb; have hs46 := hb.size; clear hb; have lt47 := bO44_0.lt
  refine pl_put rfl (by kernel_rfl) (by kernel_rfl) (sn_set2 (O := O44) (j := 0) (v := .slice (some ⟨B31, 0, none⟩) 24 k33) (v' := .slice (some ⟨g32, 0, none⟩) 24 k34) (ex_store (p := .pointer (some ⟨O44, 0, none⟩)) (v := .agg #[.slice (some ⟨B31, 0, none⟩) 24 k33, .slice (some ⟨g32, 0, none⟩) 24 k34]) rfl (by kernel_rfl) (by kernel_rfl) (st44 bO44_0.1 bO44_0.2 bO44_1.1 bO44_1.2)) bO44_0 bO44_1 ?_)
  intro X48 ho hv0 hv1 hk
  replace hE := ho.ext hE (T (T hs3 (T hs7 (T hs11 (T hs13 (T hs16 (T hs19 (T hs22 (T hs25 (T hs28 hs41))))))))) (Nat.le_of_eq hzO44)); replace hX20 := ho.ext hX20 (T (T hs22 (T hs25 (T hs28 hs41))) (Nat.le_of_eq hzO44)); replace bO23_0 := ho.box (Nat.ne_of_gt (Nat.lt_of_lt_of_le lt26 (T (T hs28 hs41) (Nat.le_of_eq hzO44)))) bO23_0; replace bO23_1 := ho.box (Nat.ne_of_gt (Nat.lt_of_lt_of_le lt26 (T (T hs28 hs41) (Nat.le_of_eq hzO44)))) bO23_1; replace hr38 := ho.rows (Nat.ne_of_gt (Nat.lt_of_lt_of_le lt42 (Nat.le_of_eq hzO44))) hr38; replace hr39 := ho.rows (Nat.ne_of_gt (Nat.lt_of_lt_of_le lt43 (Nat.le_of_eq hzO44))) hr39
  have hs49 : X45.heap.size ≤ X48.heap.size := Nat.le_of_eq ho.size.symm
  clear ho hk bO44_0 bO44_1
  have bO44_0 := hv0; clear hv0
  have bO44_1 := hv1; clear hv1
  refine pT (.int .i64 0) ?_
  refine pl_nil ?_; refine qw_then ?_
  refine cw_clean [7, 8, 9, 10, 11, 12] (ws' := [(7, .bool true), (8, .pointer (some ⟨O14, 0, none⟩)), (9, .pointer (some ⟨O23, 0, none⟩)), (10, .int .i64 ((((pk30 : Nat) : Int)) - 4 : Int)), (11, .pointer (some ⟨O44, 0, none⟩)), (12, .int .i64 0)]) (by kernel_rfl) (fun L => ?_)
  refine cw_seq ?_; refine cw_seq ?_
  have hX50 : Ext X48 X48 := Ext.refl _
  refine cw_plain ?_
  refine pT (.int .i64 0) ?_
  refine pT (.bool false) ?_
  refine pT (.bool false) ?_
  refine pT (.pointer (some ⟨O44, 0, none⟩)) ?_
  refine pl_take (.agg #[.slice (some ⟨B31, 0, none⟩) 24 k33]) rfl (by kernel_rfl) (by kernel_rfl) (by kernel_rfl) (ex_load rfl (by kernel_rfl) (ld31 (bO44_0.1))) ?_
  refine pS (sn_call (f := 33) (args := #[.agg #[.slice (some ⟨B31, 0, none⟩) 24 k33]]) (by kernel_rfl) ((Valid_w _ _ (RowsAt.va hr38 (Swath.sure_valid hok _ _))).mono ?_))
  rintro e w51 ⟨rfl, hb⟩
  replace hE := hE.trans hb; replace hX50 := hX50.trans hb; have hs52 := hb.size; clear hb
  refine ⟨_, rfl, ?_⟩
  refine pT (.bool false) ?_
  refine pT (.bool false) ?_
  refine pT (.bool false) ?_
  refine pT (.pointer (some ⟨O44, 1, none⟩)) ?_
  refine pl_take (.agg #[.slice (some ⟨g32, 0, none⟩) 24 k34]) rfl (by kernel_rfl) (by kernel_rfl) (by kernel_rfl) (ex_load rfl (by kernel_rfl) (ld31 ((BoxAt.ext hX50 bO44_1).1))) ?_
  refine pS (sn_call (f := 33) (args := #[.agg #[.slice (some ⟨g32, 0, none⟩) 24 k34]]) (by kernel_rfl) ((Valid_w _ _ (RowsAt.va (hr39.ext hX50) (Swath.can_valid hok _ _))).mono ?_))
  rintro e w53 ⟨rfl, hb⟩
  replace hE := hE.trans hb; replace hX50 := hX50.trans hb; have hs54 := hb.size; clear hb
  refine ⟨_, rfl, ?_⟩
  refine pT (.bool false) ?_
  refine pT (.bool false) ?_
  refine pT (.bool false) ?_
  refine pT (.pointer (some ⟨O44, 1, none⟩)) ?_
  refine pl_take (.agg #[.slice (some ⟨g32, 0, none⟩) 24 k34]) rfl (by kernel_rfl) (by kernel_rfl) (by kernel_rfl) (ex_load rfl (by kernel_rfl) (ld31 ((BoxAt.ext hX50 bO44_1).1))) ?_
  refine pT (.pointer (some ⟨O44, 0, none⟩)) ?_
  refine pl_take (.agg #[.slice (some ⟨B31, 0, none⟩) 24 k33]) rfl (by kernel_rfl) (by kernel_rfl) (by kernel_rfl) (ex_load rfl (by kernel_rfl) (ld31 ((BoxAt.ext hX50 bO44_0).1))) ?_
  refine pS (sn_call (f := 31) (args := #[.agg #[.slice (some ⟨g32, 0, none⟩) 24 k34], .agg #[.slice (some ⟨B31, 0, none⟩) 24 k33]]) (by kernel_rfl) ((Contains_w (r := true) _ _ _ (RowsAt.va (hr39.ext hX50) (Swath.can_valid hok _ _)) (RowsAt.va (hr38.ext hX50) (Swath.sure_valid hok _ _)) (Swath.can_sure hok s _)).mono ?_))
  rintro e w55 ⟨rfl, hb⟩
  replace hE := hE.trans hb; replace hX50 := hX50.trans hb; have hs56 := hb.size; clear hb
  refine ⟨_, rfl, ?_⟩
  refine pT (.bool false) ?_
  refine pT (.bool false) ?_
  refine pl_nil ?_; refine qw_then ?_
  refine cw_clean [7, 8, 9, 10, 11, 60] (ws' := [(7, .bool true), (8, .pointer (some ⟨O14, 0, none⟩)), (9, .pointer (some ⟨O23, 0, none⟩)), (10, .int .i64 ((((pk30 : Nat) : Int)) - 4 : Int)), (11, .pointer (some ⟨O44, 0, none⟩)), (60, .bool false)]) (by kernel_rfl) (fun L => ?_)
  refine cw_f (by kernel_rfl) ?_
  refine cw_skip ?_
  refine qw_then ?_; refine cw_seq ?_; refine cw_plain ?_
  refine pS (sn_call (f := 34) (args := #[]) (by kernel_rfl) ((Empty_c _).mono ?_))
  rintro e w60 ⟨B57, rfl, hn58, hr59, hb⟩
  replace hE := hE.trans hb; replace hX50 := hX50.trans hb; have hs61 := hb.size; clear hb; have lt62 := hr59.lt
  refine ⟨_, rfl, ?_⟩
  refine pS (sn_new (us := #[.slice none 0 0]) (t := 31) (by kernel_rfl) ?_)
  intro O63 X64 hO hOs hb hbx
  have hzO63 := hO; have hyO63 := hOs; clear hO hOs
  have bO63_0 : BoxAt X64 O63 0 (.slice none 0 0) := hbx 0 _ rfl
  clear hbx; replace hE := hE.trans hb; replace hX50 := hX50.trans hb; replace hr59 := hr59.ext hb; have hs65 := hb.size; clear hb; have lt66 := bO63_0.lt
  refine pl_put rfl (by kernel_rfl) (by kernel_rfl) (sn_set (O := O63) (j := 0) (v := .slice (some ⟨B57, 0, none⟩) 24 24) (ex_store (p := .pointer (some ⟨O63, 0, none⟩)) (v := .agg #[.slice (some ⟨B57, 0, none⟩) 24 24]) rfl (by kernel_rfl) (by kernel_rfl) (st31 bO63_0.1 bO63_0.2)) bO63_0 ?_)
  intro X67 ho hv0 hk
  replace hE := ho.ext hE (T (T hs3 (T hs7 (T hs11 (T hs13 (T hs16 (T hs19 (T hs22 (T hs25 (T hs28 (T hs41 (T hs46 (T hs49 (T hs52 (T hs54 (T hs56 hs61))))))))))))))) (Nat.le_of_eq hzO63)); replace hX50 := ho.ext hX50 (T (T hs52 (T hs54 (T hs56 hs61))) (Nat.le_of_eq hzO63)); replace hr59 := ho.rows (Nat.ne_of_gt (Nat.lt_of_lt_of_le lt62 (Nat.le_of_eq hzO63))) hr59
  have hs68 : X64.heap.size ≤ X67.heap.size := Nat.le_of_eq ho.size.symm
  clear ho hk bO63_0
  have bO63_0 := hv0; clear hv0
  refine pl_nil ?_; refine qw_then ?_; refine cw_seq ?_; refine cw_plain ?_
  refine pS (sn_new (us := #[.slice none 0 0]) (t := 31) (by kernel_rfl) ?_)
  intro O69 X70 hO hOs hb hbx
  have hzO69 := hO; have hyO69 := hOs; clear hO hOs
  have bO69_0 : BoxAt X70 O69 0 (.slice none 0 0) := hbx 0 _ rfl
  clear hbx; replace hE := hE.trans hb; replace hX50 := hX50.trans hb; replace hr59 := hr59.ext hb; replace bO63_0 := BoxAt.ext hb bO63_0; have hs71 := hb.size; clear hb; have lt72 := bO69_0.lt; refine pl_nil ?_; refine qw_then ?_; refine cw_seq ?_; refine cw_seq ?_
  have hX73 : Ext X70 X70 := Ext.refl _
  refine cw_plain ?_
  refine pT (.pointer (some ⟨O14, 6, none⟩)) ?_
  have hY74 := hX20.trans hX50
  refine pl_take (.int .i64 (o.sl : Int)) rfl (by kernel_rfl) (by kernel_rfl) (by kernel_rfl) (ex_load rfl (by kernel_rfl) (ld3 ((BoxAt.ext (hY74.trans hX73) bO14_6).1))) ?_
  refine pl_take (.int .i64 (-o.sl : Int)) rfl (by kernel_rfl) (by kernel_rfl) (by kernel_rfl) (ev_int (ev_wrap (a := 0 - o.sl) (by kernel_rfl) (by omega) (by omega)) (by omega)) ?_
  refine pl_take (.int .i64 (-o.sl + ((0 : Nat) : Int) : Int)) rfl (by kernel_rfl) (by kernel_rfl) (by kernel_rfl) (ev_int (show _ = Result.ok (Next.value (Value.int .i64 (-o.sl))) _ from by kernel_rfl) (by omega)) ?_
  refine pl_nil ?_; refine qw_then ?_
  refine cw_block ?_
  have hN : Swath.lates o = (2 * o.sl + 1).toNat := rfl
  have hY76 := hX9.trans hY74
  have bO1_t75 := (BoxAt.ext (hY76.trans hX73) bO1_0)
  have bO1_t77 := (BoxAt.ext (hY76.trans hX73) bO1_1)
  have bO1_t78 := (BoxAt.ext (hY76.trans hX73) bO1_2)
  have bO1_t79 := (BoxAt.ext (hY76.trans hX73) bO1_3)
  have bO1_t80 := (BoxAt.ext (hY76.trans hX73) bO1_4)
  have bO1_t81 := (BoxAt.ext (hY76.trans hX73) bO1_5)
  have bO1_t82 := (BoxAt.ext (hY76.trans hX73) bO1_6)
  have bO5_t83 := (BoxAt.ext (hY76.trans hX73) bO5_0)
  have bO5_t84 := (BoxAt.ext (hY76.trans hX73) bO5_1)
  have bO14_t85 := (BoxAt.ext (hY74.trans hX73) bO14_0)
  have bO14_t86 := (BoxAt.ext (hY74.trans hX73) bO14_1)
  have bO14_t87 := (BoxAt.ext (hY74.trans hX73) bO14_2)
  have bO14_t88 := (BoxAt.ext (hY74.trans hX73) bO14_3)
  have bO14_t89 := (BoxAt.ext (hY74.trans hX73) bO14_4)
  have bO14_t90 := (BoxAt.ext (hY74.trans hX73) bO14_5)
  have bO14_t91 := (BoxAt.ext (hY74.trans hX73) bO14_6)
  have bO23_t92 := (BoxAt.ext (hX50.trans hX73) bO23_0)
  have bO23_t93 := (BoxAt.ext (hX50.trans hX73) bO23_1)
  have hrt94 := (hr38.ext (hX50.trans hX73))
  have hrt95 := (hr39.ext (hX50.trans hX73))
  have bO44_t96 := (BoxAt.ext (hX50.trans hX73) bO44_0)
  have bO44_t97 := (BoxAt.ext (hX50.trans hX73) bO44_1)
  have hrt98 := hr59
  have bO63_t99 := bO63_0
  have bO69_t100 := bO69_0
  refine cw_loop [7, 8, 9, 10, 11, 13, 14, 15] (fun ws' wr m => ∃ j : Nat, ∃ B9 : Nat, ∃ k8 : Nat, ws' = [(7, .bool true), (8, .pointer (some ⟨O14, 0, none⟩)), (9, .pointer (some ⟨O23, 0, none⟩)), (10, .int .i64 ((((pk30 : Nat) : Int)) - 4 : Int)), (11, .pointer (some ⟨O44, 0, none⟩)), (13, .pointer (some ⟨O63, 0, none⟩)), (14, .pointer (some ⟨O69, 0, none⟩)), (15, .int .i64 (-o.sl + ((j : Nat) : Int) : Int))] ∧ m = Swath.lates o - j ∧ X70.heap.size ≤ wr.heap.size ∧ Ext w wr ∧ BoxAt wr O1 0 (.int .i64 (x0 : Int)) ∧ BoxAt wr O1 1 (.int .i64 (x1 : Int)) ∧ BoxAt wr O1 2 (.int .i64 (x2 : Int)) ∧ BoxAt wr O1 3 (.int .i64 (x3 : Int)) ∧ BoxAt wr O1 4 (.int .i64 (x4 : Int)) ∧ BoxAt wr O1 5 (.int .i64 (x5 : Int)) ∧ BoxAt wr O1 6 (.int .i64 (x6 : Int)) ∧ BoxAt wr O5 0 (.int .i64 (y0 : Int)) ∧ BoxAt wr O5 1 (.int .i64 (y1 : Int)) ∧ BoxAt wr O14 0 (.int .i64 (o.p : Int)) ∧ BoxAt wr O14 1 (.int .i64 (o.f : Int)) ∧ BoxAt wr O14 2 (.int .i64 (o.lo : Int)) ∧ BoxAt wr O14 3 (.int .i64 (o.hi : Int)) ∧ BoxAt wr O14 4 (.int .i64 (o.nd : Int)) ∧ BoxAt wr O14 5 (.int .i64 (o.tn : Int)) ∧ BoxAt wr O14 6 (.int .i64 (o.sl : Int)) ∧ BoxAt wr O23 0 (.int .i64 (s.1 : Int)) ∧ BoxAt wr O23 1 (.int .i64 (s.2 : Int)) ∧ RowsAt wr B31 (Swath.sureL o s ((((pk30 : Nat) : Int)) - 4)) ∧ RowsAt wr g32 (Swath.canL o s ((((pk30 : Nat) : Int)) - 4)) ∧ BoxAt wr O44 0 (.slice (some ⟨B31, 0, none⟩) 24 k33) ∧ BoxAt wr O44 1 (.slice (some ⟨g32, 0, none⟩) 24 k34) ∧ BoxAt wr O63 0 (.slice (some ⟨B9, 0, none⟩) 24 k8) ∧ RowsAt wr B9 (Swath.foldU (Swath.areaJ o s ((((pk30 : Nat) : Int)) - 4)) j) ∧ NoneAt O69 O63 (Swath.areaJ o s ((((pk30 : Nat) : Int)) - 4)) j wr ∧ B9 ≠ O63 ∧ B9 ≠ O69 ∧ j ≤ Swath.lates o) (ws0 := [(7, .bool true), (8, .pointer (some ⟨O14, 0, none⟩)), (9, .pointer (some ⟨O23, 0, none⟩)), (10, .int .i64 ((((pk30 : Nat) : Int)) - 4 : Int)), (11, .pointer (some ⟨O44, 0, none⟩)), (13, .pointer (some ⟨O63, 0, none⟩)), (14, .pointer (some ⟨O69, 0, none⟩)), (15, .int .i64 (-o.sl + ((0 : Nat) : Int) : Int))]) (by kernel_rfl) _ ⟨0, B57, _, rfl, rfl, Nat.le_refl _, hE, bO1_t75, bO1_t77, bO1_t78, bO1_t79, bO1_t80, bO1_t81, bO1_t82, bO5_t83, bO5_t84, bO14_t85, bO14_t86, bO14_t87, bO14_t88, bO14_t89, bO14_t90, bO14_t91, bO23_t92, bO23_t93, hrt94, hrt95, bO44_t96, bO44_t97, bO63_t99, hrt98, (.inl ⟨rfl, bO69_t100⟩), (fun h => (Nat.ne_of_lt (Nat.lt_of_lt_of_le lt62 (Nat.le_of_eq hzO63))) h), (fun h => (Nat.ne_of_lt (Nat.lt_of_lt_of_le lt62 (T (T hs65 hs68) (Nat.le_of_eq hzO69)))) h), Nat.zero_le _⟩ ?_
  clear bO1_t75 bO1_t77 bO1_t78 bO1_t79 bO1_t80 bO1_t81 bO1_t82 bO5_t83 bO5_t84 bO14_t85 bO14_t86 bO14_t87 bO14_t88 bO14_t89 bO14_t90 bO14_t91 bO23_t92 bO23_t93 hrt94 hrt95 bO44_t96 bO44_t97 hrt98 bO63_t99 bO69_t100 hE
  rintro m103 L ws w102 ⟨j, B9, k8, rfl, rfl, hs101, hE, bO1_t75, bO1_t77, bO1_t78, bO1_t79, bO1_t80, bO1_t81, bO1_t82, bO5_t83, bO5_t84, bO14_t85, bO14_t86, bO14_t87, bO14_t88, bO14_t89, bO14_t90, bO14_t91, bO23_t92, bO23_t93, hrt94, hrt95, bO44_t96, bO44_t97, z1, rb, hF, hn13, hn14, hj⟩
  have lt104 := rb.lt
  have hX105 : Ext w102 w102 := Ext.refl _
  have hn13h := Lib.hid hn13
  have hn14h := Lib.hid hn14
  rcases hF with ⟨hj0, z2⟩ | ⟨hj0, C9, k9, hm14, hm13, z2, rc⟩
  ·
    have hlt : j < Swath.lates o := by omega
    refine cw_seq ?_; refine cw_seq ?_; refine cw_plain ?_
    refine pT (.int .i64 (-o.sl + ((j : Nat) : Int) : Int)) ?_
    refine pT (.pointer (some ⟨O14, 6, none⟩)) ?_
    refine pl_take (.int .i64 (o.sl : Int)) rfl (by kernel_rfl) (by kernel_rfl) (by kernel_rfl) (ex_load rfl (by kernel_rfl) (ld3 (bO14_t91.1))) ?_
    refine pl_take (.bool true) rfl (by kernel_rfl) (by kernel_rfl) (by kernel_rfl) (ev_dec (show _ = Result.ok (Next.value (Value.bool (decide ((-o.sl + ((j : Nat) : Int) : Int) ≤ (o.sl : Int))))) _ from by kernel_rfl) (by omega)) ?_
    refine pl_nil ?_; refine qw_then ?_
    refine cw_t (by kernel_rfl) ?_
    refine cw_skip ?_
    refine qw_then ?_; refine cw_seq ?_
    refine cw_block ?_
    refine cw_seq ?_; refine cw_plain ?_
    refine pl_take (.agg #[.int .i64 (o.p : Int), .int .i64 (o.f : Int), .int .i64 (o.lo : Int), .int .i64 (o.hi : Int), .int .i64 (o.nd : Int), .int .i64 (o.tn : Int), .int .i64 (o.sl : Int)]) rfl (by kernel_rfl) (by kernel_rfl) (by kernel_rfl) (ex_load rfl (by kernel_rfl) (ld24 (bO14_t85.1) (bO14_t86.1) (bO14_t87.1) (bO14_t88.1) (bO14_t89.1) (bO14_t90.1) (bO14_t91.1))) ?_
    refine pl_take (.agg #[.int .i64 (s.1 : Int), .int .i64 (s.2 : Int)]) rfl (by kernel_rfl) (by kernel_rfl) (by kernel_rfl) (ex_load rfl (by kernel_rfl) (ld26 (bO23_t92.1) (bO23_t93.1))) ?_
    refine pT (.int .i64 ((((pk30 : Nat) : Int)) - 4 : Int)) ?_
    refine pT (.int .i64 (-o.sl + ((j : Nat) : Int) : Int)) ?_
    refine pS (sn_call (f := 14) (args := #[.agg #[.int .i64 (o.p : Int), .int .i64 (o.f : Int), .int .i64 (o.lo : Int), .int .i64 (o.hi : Int), .int .i64 (o.nd : Int), .int .i64 (o.tn : Int), .int .i64 (o.sl : Int)], .agg #[.int .i64 (s.1 : Int), .int .i64 (s.2 : Int)], .int .i64 ((((pk30 : Nat) : Int)) - 4 : Int), .int .i64 (-o.sl + ((j : Nat) : Int) : Int)]) (by kernel_rfl) ((Shown_y (o := o) (s := s) (lk := (((pk30 : Nat) : Int)) - 4) (d := -o.sl + ((j : Nat) : Int)) _ (Bool.and_eq_true_iff.2 ⟨Swath.shB_t.2 ⟨hok, ⟨by first | omega | (simp only []; omega), by first | omega | (simp only []; omega), by first | omega | (simp only []; omega), by first | omega | (simp only []; omega)⟩, by omega, by omega⟩, Globe.inB_t.2 ⟨by omega, by omega⟩⟩)).mono ?_))
    rintro e w109 ⟨B106, rfl, hn107, hr108, hb⟩
    replace hE := hE.trans hb; replace hX105 := hX105.trans hb; have hs110 := hb.size; clear hb; have lt111 := hr108.lt
    refine ⟨_, rfl, ?_⟩
    refine pT (.tuple #[.agg #[.slice (some ⟨B106, 0, none⟩) 24 24], .int .i64 0]) ?_
    refine pT (.agg #[.slice (some ⟨B106, 0, none⟩) 24 24]) ?_
    refine pT (.int .i64 0) ?_
    refine pS (sn_new (us := #[.slice none 0 0]) (t := 31) (by kernel_rfl) ?_)
    intro O112 X113 hO hOs hb hbx
    have hzO112 := hO; have hyO112 := hOs; clear hO hOs
    have bO112_0 : BoxAt X113 O112 0 (.slice none 0 0) := hbx 0 _ rfl
    clear hbx; replace hE := hE.trans hb; replace hX105 := hX105.trans hb; replace hr108 := hr108.ext hb; have hs114 := hb.size; clear hb; have lt115 := bO112_0.lt
    refine pl_put rfl (by kernel_rfl) (by kernel_rfl) (sn_set (O := O112) (j := 0) (v := .slice (some ⟨B106, 0, none⟩) 24 24) (ex_store (p := .pointer (some ⟨O112, 0, none⟩)) (v := .agg #[.slice (some ⟨B106, 0, none⟩) 24 24]) rfl (by kernel_rfl) (by kernel_rfl) (st31 bO112_0.1 bO112_0.2)) bO112_0 ?_)
    intro X116 ho hv0 hk
    replace hE := ho.ext hE (T (T hs3 (T hs7 (T hs11 (T hs13 (T hs16 (T hs19 (T hs22 (T hs25 (T hs28 (T hs41 (T hs46 (T hs49 (T hs52 (T hs54 (T hs56 (T hs61 (T hs65 (T hs68 (T hs71 (T hs101 hs110)))))))))))))))))))) (Nat.le_of_eq hzO112)); replace hX105 := ho.ext hX105 (T hs110 (Nat.le_of_eq hzO112)); replace hr108 := ho.rows (Nat.ne_of_gt (Nat.lt_of_lt_of_le lt111 (Nat.le_of_eq hzO112))) hr108
    have hs117 : X113.heap.size ≤ X116.heap.size := Nat.le_of_eq ho.size.symm
    clear ho hk bO112_0
    have bO112_0 := hv0; clear hv0
    refine pT (.int .i64 0) ?_
    refine pl_nil ?_; refine qw_then ?_
    refine cw_clean [7, 8, 9, 10, 11, 13, 14, 15, 16, 17] (ws' := [(7, .bool true), (8, .pointer (some ⟨O14, 0, none⟩)), (9, .pointer (some ⟨O23, 0, none⟩)), (10, .int .i64 ((((pk30 : Nat) : Int)) - 4 : Int)), (11, .pointer (some ⟨O44, 0, none⟩)), (13, .pointer (some ⟨O63, 0, none⟩)), (14, .pointer (some ⟨O69, 0, none⟩)), (15, .int .i64 (-o.sl + ((j : Nat) : Int) : Int)), (16, .pointer (some ⟨O112, 0, none⟩)), (17, .int .i64 0)]) (by kernel_rfl) (fun L => ?_)
    refine cw_seq ?_; refine cw_seq ?_; refine cw_plain ?_
    refine pT (.int .i64 0) ?_
    refine pT (.bool false) ?_
    refine pT (.bool false) ?_
    refine pl_take (.agg #[.slice (some ⟨B106, 0, none⟩) 24 24]) rfl (by kernel_rfl) (by kernel_rfl) (by kernel_rfl) (ex_load rfl (by kernel_rfl) (ld31 (bO112_0.1))) ?_
    refine pT (.pointer (some ⟨O44, 0, none⟩)) ?_
    refine pl_take (.agg #[.slice (some ⟨B31, 0, none⟩) 24 k33]) rfl (by kernel_rfl) (by kernel_rfl) (by kernel_rfl) (ex_load rfl (by kernel_rfl) (ld31 ((BoxAt.ext hX105 bO44_t96).1))) ?_
    refine pS (sn_call (f := 31) (args := #[.agg #[.slice (some ⟨B106, 0, none⟩) 24 24], .agg #[.slice (some ⟨B31, 0, none⟩) 24 k33]]) (by kernel_rfl) ((Contains_w (r := true) _ _ _ (RowsAt.va hr108 (Swath.areaJ_valid hok _ _ _)) (RowsAt.va (hrt94.ext hX105) (Swath.sure_valid hok _ _)) (Swath.sure_in hok s _ hlt)).mono ?_))
    rintro e w118 ⟨rfl, hb⟩
    replace hE := hE.trans hb; replace hX105 := hX105.trans hb; replace hr108 := hr108.ext hb; replace bO112_0 := BoxAt.ext hb bO112_0; have hs119 := hb.size; clear hb
    refine ⟨_, rfl, ?_⟩
    refine pT (.bool false) ?_
    refine pT (.bool false) ?_
    refine pT (.bool false) ?_
    refine pT (.pointer (some ⟨O44, 1, none⟩)) ?_
    refine pl_take (.agg #[.slice (some ⟨g32, 0, none⟩) 24 k34]) rfl (by kernel_rfl) (by kernel_rfl) (by kernel_rfl) (ex_load rfl (by kernel_rfl) (ld31 ((BoxAt.ext hX105 bO44_t97).1))) ?_
    refine pl_take (.agg #[.slice (some ⟨B106, 0, none⟩) 24 24]) rfl (by kernel_rfl) (by kernel_rfl) (by kernel_rfl) (ex_load rfl (by kernel_rfl) (ld31 (bO112_0.1))) ?_
    refine pS (sn_call (f := 31) (args := #[.agg #[.slice (some ⟨g32, 0, none⟩) 24 k34], .agg #[.slice (some ⟨B106, 0, none⟩) 24 24]]) (by kernel_rfl) ((Contains_w (r := true) _ _ _ (RowsAt.va (hrt95.ext hX105) (Swath.can_valid hok _ _)) (RowsAt.va hr108 (Swath.areaJ_valid hok _ _ _)) (Swath.can_has hok s _ hlt)).mono ?_))
    rintro e w120 ⟨rfl, hb⟩
    replace hE := hE.trans hb; replace hX105 := hX105.trans hb; replace hr108 := hr108.ext hb; replace bO112_0 := BoxAt.ext hb bO112_0; have hs121 := hb.size; clear hb
    refine ⟨_, rfl, ?_⟩
    refine pT (.bool false) ?_
    refine pT (.bool false) ?_
    refine pl_nil ?_; refine qw_then ?_
    refine cw_clean [7, 8, 9, 10, 11, 13, 14, 15, 16, 94] (ws' := [(7, .bool true), (8, .pointer (some ⟨O14, 0, none⟩)), (9, .pointer (some ⟨O23, 0, none⟩)), (10, .int .i64 ((((pk30 : Nat) : Int)) - 4 : Int)), (11, .pointer (some ⟨O44, 0, none⟩)), (13, .pointer (some ⟨O63, 0, none⟩)), (14, .pointer (some ⟨O69, 0, none⟩)), (15, .int .i64 (-o.sl + ((j : Nat) : Int) : Int)), (16, .pointer (some ⟨O112, 0, none⟩)), (94, .bool false)]) (by kernel_rfl) (fun L => ?_)
    refine cw_f (by kernel_rfl) ?_
    refine cw_skip ?_
    refine qw_then ?_; refine cw_seq ?_; refine cw_plain ?_
    refine pl_take (.agg #[.slice (some ⟨B9, 0, none⟩) 24 k8]) rfl (by kernel_rfl) (by kernel_rfl) (by kernel_rfl) (ex_load rfl (by kernel_rfl) (ld31 ((BoxAt.ext hX105 z1).1))) ?_
    refine pl_take (.agg #[.slice (some ⟨B106, 0, none⟩) 24 24]) rfl (by kernel_rfl) (by kernel_rfl) (by kernel_rfl) (ex_load rfl (by kernel_rfl) (ld31 (bO112_0.1))) ?_
    refine pS (sn_call (f := 30) (args := #[.agg #[.slice (some ⟨B9, 0, none⟩) 24 k8], .agg #[.slice (some ⟨B106, 0, none⟩) 24 24]]) (by kernel_rfl) ((Union_v _ _ _ (RowsAt.va (rb.ext hX105) (Swath.foldU_valid (Swath.areaJ_valid hok _ _) _)) (Ext.refl _) (RowsAt.va hr108 (Swath.areaJ_valid hok _ _ _)) (Ext.refl _)).mono ?_))
    rintro e w127 ⟨B122, k123, rfl, hn124, hr125, hv126, hb⟩
    replace hE := hE.trans hb; replace hX105 := hX105.trans hb; replace hr108 := hr108.ext hb; replace bO112_0 := BoxAt.ext hb bO112_0; have hs128 := hb.size; clear hb; have lt129 := hr125.lt
    have h9e : Globe.unionL (Swath.foldU (Swath.areaJ o s ((((pk30 : Nat) : Int)) - 4)) j) (Swath.areaJ o s ((((pk30 : Nat) : Int)) - 4) j) = Swath.foldU (Swath.areaJ o s ((((pk30 : Nat) : Int)) - 4)) (j + 1) := Swath.union_next (Swath.areaJ_valid hok s _) j
    replace hr125 : RowsAt _ B122 (Globe.unionL (Swath.foldU (Swath.areaJ o s ((((pk30 : Nat) : Int)) - 4)) j) (Swath.areaJ o s ((((pk30 : Nat) : Int)) - 4) j)) := hr125
    rw [h9e] at hr125; clear h9e
    clear hv126
    refine ⟨_, rfl, ?_⟩
    refine pT (.tuple #[.agg #[.slice (some ⟨B122, 0, none⟩) 24 k123], .int .i64 0]) ?_
    refine pT (.agg #[.slice (some ⟨B122, 0, none⟩) 24 k123]) ?_
    refine pT (.int .i64 0) ?_
    refine pS (sn_new (us := #[.slice none 0 0]) (t := 31) (by kernel_rfl) ?_)
    intro O130 X131 hO hOs hb hbx
    have hzO130 := hO; have hyO130 := hOs; clear hO hOs
    have bO130_0 : BoxAt X131 O130 0 (.slice none 0 0) := hbx 0 _ rfl
    clear hbx; replace hE := hE.trans hb; replace hX105 := hX105.trans hb; replace hr108 := hr108.ext hb; replace bO112_0 := BoxAt.ext hb bO112_0; replace hr125 := hr125.ext hb; have hs132 := hb.size; clear hb; have lt133 := bO130_0.lt
    refine pl_put rfl (by kernel_rfl) (by kernel_rfl) (sn_set (O := O130) (j := 0) (v := .slice (some ⟨B122, 0, none⟩) 24 k123) (ex_store (p := .pointer (some ⟨O130, 0, none⟩)) (v := .agg #[.slice (some ⟨B122, 0, none⟩) 24 k123]) rfl (by kernel_rfl) (by kernel_rfl) (st31 bO130_0.1 bO130_0.2)) bO130_0 ?_)
    intro X134 ho hv0 hk
    replace hE := ho.ext hE (T (T hs3 (T hs7 (T hs11 (T hs13 (T hs16 (T hs19 (T hs22 (T hs25 (T hs28 (T hs41 (T hs46 (T hs49 (T hs52 (T hs54 (T hs56 (T hs61 (T hs65 (T hs68 (T hs71 (T hs101 (T hs110 (T hs114 (T hs117 (T hs119 (T hs121 hs128))))))))))))))))))))))))) (Nat.le_of_eq hzO130)); replace hX105 := ho.ext hX105 (T (T hs110 (T hs114 (T hs117 (T hs119 (T hs121 hs128))))) (Nat.le_of_eq hzO130)); replace hr108 := ho.rows (Nat.ne_of_gt (Nat.lt_of_lt_of_le lt111 (T (T hs114 (T hs117 (T hs119 (T hs121 hs128)))) (Nat.le_of_eq hzO130)))) hr108; replace bO112_0 := ho.box (Nat.ne_of_gt (Nat.lt_of_lt_of_le lt115 (T (T hs117 (T hs119 (T hs121 hs128))) (Nat.le_of_eq hzO130)))) bO112_0; replace hr125 := ho.rows (Nat.ne_of_gt (Nat.lt_of_lt_of_le lt129 (Nat.le_of_eq hzO130))) hr125
    have hs135 : X131.heap.size ≤ X134.heap.size := Nat.le_of_eq ho.size.symm
    clear ho hk bO130_0
    have bO130_0 := hv0; clear hv0
    refine pT (.int .i64 0) ?_
    refine pl_nil ?_; refine qw_then ?_
    refine cw_clean [7, 8, 9, 10, 11, 13, 14, 15, 16, 18, 19] (ws' := [(7, .bool true), (8, .pointer (some ⟨O14, 0, none⟩)), (9, .pointer (some ⟨O23, 0, none⟩)), (10, .int .i64 ((((pk30 : Nat) : Int)) - 4 : Int)), (11, .pointer (some ⟨O44, 0, none⟩)), (13, .pointer (some ⟨O63, 0, none⟩)), (14, .pointer (some ⟨O69, 0, none⟩)), (15, .int .i64 (-o.sl + ((j : Nat) : Int) : Int)), (16, .pointer (some ⟨O112, 0, none⟩)), (18, .pointer (some ⟨O130, 0, none⟩)), (19, .int .i64 0)]) (by kernel_rfl) (fun L => ?_)
    refine cw_seq ?_; refine cw_seq ?_
    have hX136 : Ext X134 X134 := Ext.refl _
    refine cw_plain ?_
    refine pT (.int .i64 0) ?_
    refine pT (.bool false) ?_
    refine pl_nil ?_; refine qw_then ?_
    refine cw_f (by kernel_rfl) ?_
    refine cw_skip ?_
    refine qw_then ?_; refine cw_seq ?_; refine cw_plain ?_
    refine pl_take (.agg #[.slice (some ⟨B122, 0, none⟩) 24 k123]) rfl (by kernel_rfl) (by kernel_rfl) (by kernel_rfl) (ex_load rfl (by kernel_rfl) (ld31 (bO130_0.1))) ?_
    have bO1_tt138 := (BoxAt.ext (hX105.trans hX136) bO1_t75)
    have bO1_tt139 := (BoxAt.ext (hX105.trans hX136) bO1_t77)
    have bO1_tt140 := (BoxAt.ext (hX105.trans hX136) bO1_t78)
    have bO1_tt141 := (BoxAt.ext (hX105.trans hX136) bO1_t79)
    have bO1_tt142 := (BoxAt.ext (hX105.trans hX136) bO1_t80)
    have bO1_tt143 := (BoxAt.ext (hX105.trans hX136) bO1_t81)
    have bO1_tt144 := (BoxAt.ext (hX105.trans hX136) bO1_t82)
    have bO5_tt145 := (BoxAt.ext (hX105.trans hX136) bO5_t83)
    have bO5_tt146 := (BoxAt.ext (hX105.trans hX136) bO5_t84)
    have bO14_tt147 := (BoxAt.ext (hX105.trans hX136) bO14_t85)
    have bO14_tt148 := (BoxAt.ext (hX105.trans hX136) bO14_t86)
    have bO14_tt149 := (BoxAt.ext (hX105.trans hX136) bO14_t87)
    have bO14_tt150 := (BoxAt.ext (hX105.trans hX136) bO14_t88)
    have bO14_tt151 := (BoxAt.ext (hX105.trans hX136) bO14_t89)
    have bO14_tt152 := (BoxAt.ext (hX105.trans hX136) bO14_t90)
    have bO14_tt153 := (BoxAt.ext (hX105.trans hX136) bO14_t91)
    have bO23_tt154 := (BoxAt.ext (hX105.trans hX136) bO23_t92)
    have bO23_tt155 := (BoxAt.ext (hX105.trans hX136) bO23_t93)
    have hrtt156 := (hrt94.ext (hX105.trans hX136))
    have hrtt157 := (hrt95.ext (hX105.trans hX136))
    have bO44_tt158 := (BoxAt.ext (hX105.trans hX136) bO44_t96)
    have bO44_tt159 := (BoxAt.ext (hX105.trans hX136) bO44_t97)
    have zt160 := (BoxAt.ext (hX105.trans hX136) z1)
    have rbt161 := (rb.ext (hX105.trans hX136))
    have zt162 := (BoxAt.ext (hX105.trans hX136) z2)
    have hrt163 := hr108
    have bO112_t164 := bO112_0
    have hrt165 := hr125
    have bO130_t166 := bO130_0
    refine pl_put rfl (by kernel_rfl) (by kernel_rfl) (sn_set (O := O63) (j := 0) (v := .slice (some ⟨B122, 0, none⟩) 24 k123) (ex_store (p := .pointer (some ⟨O63, 0, none⟩)) (v := .agg #[.slice (some ⟨B122, 0, none⟩) 24 k123]) rfl (by kernel_rfl) (by kernel_rfl) (st31 zt160.1 zt160.2)) zt160 ?_)
    intro X137 ho hv0 hk
    replace hE := ho.ext hE (T (T hs3 (T hs7 (T hs11 (T hs13 (T hs16 (T hs19 (T hs22 (T hs25 (T hs28 (T hs41 (T hs46 (T hs49 (T hs52 (T hs54 (T hs56 hs61))))))))))))))) (Nat.le_of_eq hzO63)); replace bO1_tt138 := ho.box (Nat.ne_of_gt (Nat.lt_of_lt_of_le lt4 (T (T hs7 (T hs11 (T hs13 (T hs16 (T hs19 (T hs22 (T hs25 (T hs28 (T hs41 (T hs46 (T hs49 (T hs52 (T hs54 (T hs56 hs61)))))))))))))) (Nat.le_of_eq hzO63)))) bO1_tt138; replace bO1_tt139 := ho.box (Nat.ne_of_gt (Nat.lt_of_lt_of_le lt4 (T (T hs7 (T hs11 (T hs13 (T hs16 (T hs19 (T hs22 (T hs25 (T hs28 (T hs41 (T hs46 (T hs49 (T hs52 (T hs54 (T hs56 hs61)))))))))))))) (Nat.le_of_eq hzO63)))) bO1_tt139; replace bO1_tt140 := ho.box (Nat.ne_of_gt (Nat.lt_of_lt_of_le lt4 (T (T hs7 (T hs11 (T hs13 (T hs16 (T hs19 (T hs22 (T hs25 (T hs28 (T hs41 (T hs46 (T hs49 (T hs52 (T hs54 (T hs56 hs61)))))))))))))) (Nat.le_of_eq hzO63)))) bO1_tt140; replace bO1_tt141 := ho.box (Nat.ne_of_gt (Nat.lt_of_lt_of_le lt4 (T (T hs7 (T hs11 (T hs13 (T hs16 (T hs19 (T hs22 (T hs25 (T hs28 (T hs41 (T hs46 (T hs49 (T hs52 (T hs54 (T hs56 hs61)))))))))))))) (Nat.le_of_eq hzO63)))) bO1_tt141; replace bO1_tt142 := ho.box (Nat.ne_of_gt (Nat.lt_of_lt_of_le lt4 (T (T hs7 (T hs11 (T hs13 (T hs16 (T hs19 (T hs22 (T hs25 (T hs28 (T hs41 (T hs46 (T hs49 (T hs52 (T hs54 (T hs56 hs61)))))))))))))) (Nat.le_of_eq hzO63)))) bO1_tt142; replace bO1_tt143 := ho.box (Nat.ne_of_gt (Nat.lt_of_lt_of_le lt4 (T (T hs7 (T hs11 (T hs13 (T hs16 (T hs19 (T hs22 (T hs25 (T hs28 (T hs41 (T hs46 (T hs49 (T hs52 (T hs54 (T hs56 hs61)))))))))))))) (Nat.le_of_eq hzO63)))) bO1_tt143; replace bO1_tt144 := ho.box (Nat.ne_of_gt (Nat.lt_of_lt_of_le lt4 (T (T hs7 (T hs11 (T hs13 (T hs16 (T hs19 (T hs22 (T hs25 (T hs28 (T hs41 (T hs46 (T hs49 (T hs52 (T hs54 (T hs56 hs61)))))))))))))) (Nat.le_of_eq hzO63)))) bO1_tt144; replace bO5_tt145 := ho.box (Nat.ne_of_gt (Nat.lt_of_lt_of_le lt8 (T (T hs11 (T hs13 (T hs16 (T hs19 (T hs22 (T hs25 (T hs28 (T hs41 (T hs46 (T hs49 (T hs52 (T hs54 (T hs56 hs61))))))))))))) (Nat.le_of_eq hzO63)))) bO5_tt145; replace bO5_tt146 := ho.box (Nat.ne_of_gt (Nat.lt_of_lt_of_le lt8 (T (T hs11 (T hs13 (T hs16 (T hs19 (T hs22 (T hs25 (T hs28 (T hs41 (T hs46 (T hs49 (T hs52 (T hs54 (T hs56 hs61))))))))))))) (Nat.le_of_eq hzO63)))) bO5_tt146; replace bO14_tt147 := ho.box (Nat.ne_of_gt (Nat.lt_of_lt_of_le lt17 (T (T hs19 (T hs22 (T hs25 (T hs28 (T hs41 (T hs46 (T hs49 (T hs52 (T hs54 (T hs56 hs61)))))))))) (Nat.le_of_eq hzO63)))) bO14_tt147; replace bO14_tt148 := ho.box (Nat.ne_of_gt (Nat.lt_of_lt_of_le lt17 (T (T hs19 (T hs22 (T hs25 (T hs28 (T hs41 (T hs46 (T hs49 (T hs52 (T hs54 (T hs56 hs61)))))))))) (Nat.le_of_eq hzO63)))) bO14_tt148; replace bO14_tt149 := ho.box (Nat.ne_of_gt (Nat.lt_of_lt_of_le lt17 (T (T hs19 (T hs22 (T hs25 (T hs28 (T hs41 (T hs46 (T hs49 (T hs52 (T hs54 (T hs56 hs61)))))))))) (Nat.le_of_eq hzO63)))) bO14_tt149; replace bO14_tt150 := ho.box (Nat.ne_of_gt (Nat.lt_of_lt_of_le lt17 (T (T hs19 (T hs22 (T hs25 (T hs28 (T hs41 (T hs46 (T hs49 (T hs52 (T hs54 (T hs56 hs61)))))))))) (Nat.le_of_eq hzO63)))) bO14_tt150; replace bO14_tt151 := ho.box (Nat.ne_of_gt (Nat.lt_of_lt_of_le lt17 (T (T hs19 (T hs22 (T hs25 (T hs28 (T hs41 (T hs46 (T hs49 (T hs52 (T hs54 (T hs56 hs61)))))))))) (Nat.le_of_eq hzO63)))) bO14_tt151; replace bO14_tt152 := ho.box (Nat.ne_of_gt (Nat.lt_of_lt_of_le lt17 (T (T hs19 (T hs22 (T hs25 (T hs28 (T hs41 (T hs46 (T hs49 (T hs52 (T hs54 (T hs56 hs61)))))))))) (Nat.le_of_eq hzO63)))) bO14_tt152; replace bO14_tt153 := ho.box (Nat.ne_of_gt (Nat.lt_of_lt_of_le lt17 (T (T hs19 (T hs22 (T hs25 (T hs28 (T hs41 (T hs46 (T hs49 (T hs52 (T hs54 (T hs56 hs61)))))))))) (Nat.le_of_eq hzO63)))) bO14_tt153; replace bO23_tt154 := ho.box (Nat.ne_of_gt (Nat.lt_of_lt_of_le lt26 (T (T hs28 (T hs41 (T hs46 (T hs49 (T hs52 (T hs54 (T hs56 hs61))))))) (Nat.le_of_eq hzO63)))) bO23_tt154; replace bO23_tt155 := ho.box (Nat.ne_of_gt (Nat.lt_of_lt_of_le lt26 (T (T hs28 (T hs41 (T hs46 (T hs49 (T hs52 (T hs54 (T hs56 hs61))))))) (Nat.le_of_eq hzO63)))) bO23_tt155
    replace hrtt156 := ho.rows (Nat.ne_of_gt (Nat.lt_of_lt_of_le lt42 (T (T hs46 (T hs49 (T hs52 (T hs54 (T hs56 hs61))))) (Nat.le_of_eq hzO63)))) hrtt156; replace hrtt157 := ho.rows (Nat.ne_of_gt (Nat.lt_of_lt_of_le lt43 (T (T hs46 (T hs49 (T hs52 (T hs54 (T hs56 hs61))))) (Nat.le_of_eq hzO63)))) hrtt157; replace bO44_tt158 := ho.box (Nat.ne_of_gt (Nat.lt_of_lt_of_le lt47 (T (T hs49 (T hs52 (T hs54 (T hs56 hs61)))) (Nat.le_of_eq hzO63)))) bO44_tt158; replace bO44_tt159 := ho.box (Nat.ne_of_gt (Nat.lt_of_lt_of_le lt47 (T (T hs49 (T hs52 (T hs54 (T hs56 hs61)))) (Nat.le_of_eq hzO63)))) bO44_tt159; replace rbt161 := ho.rows (Ne.symm hn13h.out) rbt161; replace zt162 := ho.box (Nat.ne_of_lt (Nat.lt_of_lt_of_le lt66 (T hs68 (Nat.le_of_eq hzO69)))) zt162; replace hrt163 := ho.rows (Nat.ne_of_lt (Nat.lt_of_lt_of_le lt66 (T (T hs68 (T hs71 hs101)) hn107))) hrt163; replace bO112_t164 := ho.box (Nat.ne_of_lt (Nat.lt_of_lt_of_le lt66 (T (T hs68 (T hs71 (T hs101 hs110))) (Nat.le_of_eq hzO112)))) bO112_t164; replace hrt165 := ho.rows (Nat.ne_of_lt (Nat.lt_of_lt_of_le lt66 (T (T hs68 (T hs71 (T hs101 (T hs110 (T hs114 (T hs117 (T hs119 hs121))))))) hn124))) hrt165; replace bO130_t166 := ho.box (Nat.ne_of_lt (Nat.lt_of_lt_of_le lt66 (T (T hs68 (T hs71 (T hs101 (T hs110 (T hs114 (T hs117 (T hs119 (T hs121 hs128)))))))) (Nat.le_of_eq hzO130)))) bO130_t166
    have hs167 : X134.heap.size ≤ X137.heap.size := Nat.le_of_eq ho.size.symm
    clear ho hk zt160
    have zt160 := hv0; clear hv0
    refine pl_nil ?_; refine qw_then ?_; refine cw_seq ?_; refine cw_seq ?_
    have hX168 : Ext X137 X137 := Ext.refl _
    refine cw_plain ?_
    refine pT (.int .i64 (-o.sl + ((j : Nat) : Int) : Int)) ?_
    refine pT (.pointer (some ⟨O14, 6, none⟩)) ?_
    refine pl_take (.int .i64 (o.sl : Int)) rfl (by kernel_rfl) (by kernel_rfl) (by kernel_rfl) (ex_load rfl (by kernel_rfl) (ld3 (bO14_tt153.1))) ?_
    refine pl_take (.int .i64 (-o.sl : Int)) rfl (by kernel_rfl) (by kernel_rfl) (by kernel_rfl) (ev_int (ev_wrap (a := 0 - o.sl) (by kernel_rfl) (by omega) (by omega)) (by omega)) ?_
    refine pl_take (.bool true) rfl (by kernel_rfl) (by kernel_rfl) (by kernel_rfl) (ev_eq (show _ = Result.ok (Next.value (Value.bool ((-o.sl + ((j : Nat) : Int) : Int) == (-o.sl : Int)))) _ from by kernel_rfl) (by omega)) ?_
    refine pl_nil ?_; refine qw_then ?_
    refine cw_clean [7, 8, 9, 10, 11, 13, 14, 15, 16, 108] (ws' := [(7, .bool true), (8, .pointer (some ⟨O14, 0, none⟩)), (9, .pointer (some ⟨O23, 0, none⟩)), (10, .int .i64 ((((pk30 : Nat) : Int)) - 4 : Int)), (11, .pointer (some ⟨O44, 0, none⟩)), (13, .pointer (some ⟨O63, 0, none⟩)), (14, .pointer (some ⟨O69, 0, none⟩)), (15, .int .i64 (-o.sl + ((j : Nat) : Int) : Int)), (16, .pointer (some ⟨O112, 0, none⟩)), (108, .bool true)]) (by kernel_rfl) (fun L => ?_)
    refine cw_t (by kernel_rfl) ?_
    refine cw_seq ?_; refine cw_plain ?_
    refine pl_take (.agg #[.slice (some ⟨B106, 0, none⟩) 24 24]) rfl (by kernel_rfl) (by kernel_rfl) (by kernel_rfl) (ex_load rfl (by kernel_rfl) (ld31 (bO112_t164.1))) ?_
    have bO1_ttt170 := bO1_tt138
    have bO1_ttt171 := bO1_tt139
    have bO1_ttt172 := bO1_tt140
    have bO1_ttt173 := bO1_tt141
    have bO1_ttt174 := bO1_tt142
    have bO1_ttt175 := bO1_tt143
    have bO1_ttt176 := bO1_tt144
    have bO5_ttt177 := bO5_tt145
    have bO5_ttt178 := bO5_tt146
    have bO14_ttt179 := bO14_tt147
    have bO14_ttt180 := bO14_tt148
    have bO14_ttt181 := bO14_tt149
    have bO14_ttt182 := bO14_tt150
    have bO14_ttt183 := bO14_tt151
    have bO14_ttt184 := bO14_tt152
    have bO14_ttt185 := bO14_tt153
    have bO23_ttt186 := bO23_tt154
    have bO23_ttt187 := bO23_tt155
    have hrttt188 := hrtt156
    have hrttt189 := hrtt157
    have bO44_ttt190 := bO44_tt158
    have bO44_ttt191 := bO44_tt159
    have rbtt192 := rbt161
    have ztt193 := zt162
    have hrtt194 := hrt163
    have bO112_tt195 := bO112_t164
    have hrtt196 := hrt165
    have bO130_tt197 := bO130_t166
    have ztt198 := zt160
    refine pl_put rfl (by kernel_rfl) (by kernel_rfl) (sn_set (O := O69) (j := 0) (v := .slice (some ⟨B106, 0, none⟩) 24 24) (ex_store (p := .pointer (some ⟨O69, 0, none⟩)) (v := .agg #[.slice (some ⟨B106, 0, none⟩) 24 24]) rfl (by kernel_rfl) (by kernel_rfl) (st31 ztt193.1 ztt193.2)) ztt193 ?_)
    intro X169 ho hv0 hk
    replace hE := ho.ext hE (T (T hs3 (T hs7 (T hs11 (T hs13 (T hs16 (T hs19 (T hs22 (T hs25 (T hs28 (T hs41 (T hs46 (T hs49 (T hs52 (T hs54 (T hs56 (T hs61 (T hs65 hs68))))))))))))))))) (Nat.le_of_eq hzO69)); replace bO1_ttt170 := ho.box (Nat.ne_of_gt (Nat.lt_of_lt_of_le lt4 (T (T hs7 (T hs11 (T hs13 (T hs16 (T hs19 (T hs22 (T hs25 (T hs28 (T hs41 (T hs46 (T hs49 (T hs52 (T hs54 (T hs56 (T hs61 (T hs65 hs68)))))))))))))))) (Nat.le_of_eq hzO69)))) bO1_ttt170; replace bO1_ttt171 := ho.box (Nat.ne_of_gt (Nat.lt_of_lt_of_le lt4 (T (T hs7 (T hs11 (T hs13 (T hs16 (T hs19 (T hs22 (T hs25 (T hs28 (T hs41 (T hs46 (T hs49 (T hs52 (T hs54 (T hs56 (T hs61 (T hs65 hs68)))))))))))))))) (Nat.le_of_eq hzO69)))) bO1_ttt171; replace bO1_ttt172 := ho.box (Nat.ne_of_gt (Nat.lt_of_lt_of_le lt4 (T (T hs7 (T hs11 (T hs13 (T hs16 (T hs19 (T hs22 (T hs25 (T hs28 (T hs41 (T hs46 (T hs49 (T hs52 (T hs54 (T hs56 (T hs61 (T hs65 hs68)))))))))))))))) (Nat.le_of_eq hzO69)))) bO1_ttt172; replace bO1_ttt173 := ho.box (Nat.ne_of_gt (Nat.lt_of_lt_of_le lt4 (T (T hs7 (T hs11 (T hs13 (T hs16 (T hs19 (T hs22 (T hs25 (T hs28 (T hs41 (T hs46 (T hs49 (T hs52 (T hs54 (T hs56 (T hs61 (T hs65 hs68)))))))))))))))) (Nat.le_of_eq hzO69)))) bO1_ttt173; replace bO1_ttt174 := ho.box (Nat.ne_of_gt (Nat.lt_of_lt_of_le lt4 (T (T hs7 (T hs11 (T hs13 (T hs16 (T hs19 (T hs22 (T hs25 (T hs28 (T hs41 (T hs46 (T hs49 (T hs52 (T hs54 (T hs56 (T hs61 (T hs65 hs68)))))))))))))))) (Nat.le_of_eq hzO69)))) bO1_ttt174; replace bO1_ttt175 := ho.box (Nat.ne_of_gt (Nat.lt_of_lt_of_le lt4 (T (T hs7 (T hs11 (T hs13 (T hs16 (T hs19 (T hs22 (T hs25 (T hs28 (T hs41 (T hs46 (T hs49 (T hs52 (T hs54 (T hs56 (T hs61 (T hs65 hs68)))))))))))))))) (Nat.le_of_eq hzO69)))) bO1_ttt175; replace bO1_ttt176 := ho.box (Nat.ne_of_gt (Nat.lt_of_lt_of_le lt4 (T (T hs7 (T hs11 (T hs13 (T hs16 (T hs19 (T hs22 (T hs25 (T hs28 (T hs41 (T hs46 (T hs49 (T hs52 (T hs54 (T hs56 (T hs61 (T hs65 hs68)))))))))))))))) (Nat.le_of_eq hzO69)))) bO1_ttt176; replace bO5_ttt177 := ho.box (Nat.ne_of_gt (Nat.lt_of_lt_of_le lt8 (T (T hs11 (T hs13 (T hs16 (T hs19 (T hs22 (T hs25 (T hs28 (T hs41 (T hs46 (T hs49 (T hs52 (T hs54 (T hs56 (T hs61 (T hs65 hs68))))))))))))))) (Nat.le_of_eq hzO69)))) bO5_ttt177; replace bO5_ttt178 := ho.box (Nat.ne_of_gt (Nat.lt_of_lt_of_le lt8 (T (T hs11 (T hs13 (T hs16 (T hs19 (T hs22 (T hs25 (T hs28 (T hs41 (T hs46 (T hs49 (T hs52 (T hs54 (T hs56 (T hs61 (T hs65 hs68))))))))))))))) (Nat.le_of_eq hzO69)))) bO5_ttt178; replace bO14_ttt179 := ho.box (Nat.ne_of_gt (Nat.lt_of_lt_of_le lt17 (T (T hs19 (T hs22 (T hs25 (T hs28 (T hs41 (T hs46 (T hs49 (T hs52 (T hs54 (T hs56 (T hs61 (T hs65 hs68)))))))))))) (Nat.le_of_eq hzO69)))) bO14_ttt179; replace bO14_ttt180 := ho.box (Nat.ne_of_gt (Nat.lt_of_lt_of_le lt17 (T (T hs19 (T hs22 (T hs25 (T hs28 (T hs41 (T hs46 (T hs49 (T hs52 (T hs54 (T hs56 (T hs61 (T hs65 hs68)))))))))))) (Nat.le_of_eq hzO69)))) bO14_ttt180; replace bO14_ttt181 := ho.box (Nat.ne_of_gt (Nat.lt_of_lt_of_le lt17 (T (T hs19 (T hs22 (T hs25 (T hs28 (T hs41 (T hs46 (T hs49 (T hs52 (T hs54 (T hs56 (T hs61 (T hs65 hs68)))))))))))) (Nat.le_of_eq hzO69)))) bO14_ttt181; replace bO14_ttt182 := ho.box (Nat.ne_of_gt (Nat.lt_of_lt_of_le lt17 (T (T hs19 (T hs22 (T hs25 (T hs28 (T hs41 (T hs46 (T hs49 (T hs52 (T hs54 (T hs56 (T hs61 (T hs65 hs68)))))))))))) (Nat.le_of_eq hzO69)))) bO14_ttt182; replace bO14_ttt183 := ho.box (Nat.ne_of_gt (Nat.lt_of_lt_of_le lt17 (T (T hs19 (T hs22 (T hs25 (T hs28 (T hs41 (T hs46 (T hs49 (T hs52 (T hs54 (T hs56 (T hs61 (T hs65 hs68)))))))))))) (Nat.le_of_eq hzO69)))) bO14_ttt183; replace bO14_ttt184 := ho.box (Nat.ne_of_gt (Nat.lt_of_lt_of_le lt17 (T (T hs19 (T hs22 (T hs25 (T hs28 (T hs41 (T hs46 (T hs49 (T hs52 (T hs54 (T hs56 (T hs61 (T hs65 hs68)))))))))))) (Nat.le_of_eq hzO69)))) bO14_ttt184; replace bO14_ttt185 := ho.box (Nat.ne_of_gt (Nat.lt_of_lt_of_le lt17 (T (T hs19 (T hs22 (T hs25 (T hs28 (T hs41 (T hs46 (T hs49 (T hs52 (T hs54 (T hs56 (T hs61 (T hs65 hs68)))))))))))) (Nat.le_of_eq hzO69)))) bO14_ttt185
    replace bO23_ttt186 := ho.box (Nat.ne_of_gt (Nat.lt_of_lt_of_le lt26 (T (T hs28 (T hs41 (T hs46 (T hs49 (T hs52 (T hs54 (T hs56 (T hs61 (T hs65 hs68))))))))) (Nat.le_of_eq hzO69)))) bO23_ttt186; replace bO23_ttt187 := ho.box (Nat.ne_of_gt (Nat.lt_of_lt_of_le lt26 (T (T hs28 (T hs41 (T hs46 (T hs49 (T hs52 (T hs54 (T hs56 (T hs61 (T hs65 hs68))))))))) (Nat.le_of_eq hzO69)))) bO23_ttt187; replace hrttt188 := ho.rows (Nat.ne_of_gt (Nat.lt_of_lt_of_le lt42 (T (T hs46 (T hs49 (T hs52 (T hs54 (T hs56 (T hs61 (T hs65 hs68))))))) (Nat.le_of_eq hzO69)))) hrttt188; replace hrttt189 := ho.rows (Nat.ne_of_gt (Nat.lt_of_lt_of_le lt43 (T (T hs46 (T hs49 (T hs52 (T hs54 (T hs56 (T hs61 (T hs65 hs68))))))) (Nat.le_of_eq hzO69)))) hrttt189; replace bO44_ttt190 := ho.box (Nat.ne_of_gt (Nat.lt_of_lt_of_le lt47 (T (T hs49 (T hs52 (T hs54 (T hs56 (T hs61 (T hs65 hs68)))))) (Nat.le_of_eq hzO69)))) bO44_ttt190; replace bO44_ttt191 := ho.box (Nat.ne_of_gt (Nat.lt_of_lt_of_le lt47 (T (T hs49 (T hs52 (T hs54 (T hs56 (T hs61 (T hs65 hs68)))))) (Nat.le_of_eq hzO69)))) bO44_ttt191; replace rbtt192 := ho.rows (Ne.symm hn14h.out) rbtt192; replace hrtt194 := ho.rows (Nat.ne_of_lt (Nat.lt_of_lt_of_le lt72 (T hs101 hn107))) hrtt194; replace bO112_tt195 := ho.box (Nat.ne_of_lt (Nat.lt_of_lt_of_le lt72 (T (T hs101 hs110) (Nat.le_of_eq hzO112)))) bO112_tt195; replace hrtt196 := ho.rows (Nat.ne_of_lt (Nat.lt_of_lt_of_le lt72 (T (T hs101 (T hs110 (T hs114 (T hs117 (T hs119 hs121))))) hn124))) hrtt196; replace bO130_tt197 := ho.box (Nat.ne_of_lt (Nat.lt_of_lt_of_le lt72 (T (T hs101 (T hs110 (T hs114 (T hs117 (T hs119 (T hs121 hs128)))))) (Nat.le_of_eq hzO130)))) bO130_tt197; replace ztt198 := ho.box (Nat.ne_of_gt (Nat.lt_of_lt_of_le lt66 (T hs68 (Nat.le_of_eq hzO69)))) ztt198
    have hs199 : X137.heap.size ≤ X169.heap.size := Nat.le_of_eq ho.size.symm
    clear ho hk ztt193
    have ztt193 := hv0; clear hv0
    refine pl_nil ?_; refine qw_then ?_
    refine cw_exit ?_
    refine qw_then_exit ?_
    refine qw_block_out ?_
    refine qw_then ?_
    have hX200 : Ext X169 X169 := Ext.refl _
    refine cw_plain ?_
    refine pT (.int .i64 (-o.sl + ((j : Nat) : Int) : Int)) ?_
    refine pl_take (.int .i64 (-o.sl + ((j + 1 : Nat) : Int) : Int)) rfl (by kernel_rfl) (by kernel_rfl) (by kernel_rfl) (ev_int (ev_wrap (a := -o.sl + ((j : Nat) : Int) + 1) (by kernel_rfl) (by omega) (by omega)) (by omega)) ?_
    refine pT (.int .i64 (-o.sl + ((j + 1 : Nat) : Int) : Int)) ?_
    refine pl_nil ?_
    refine qw_round [7, 8, 9, 10, 11, 13, 14, 15] (ws' := [(7, .bool true), (8, .pointer (some ⟨O14, 0, none⟩)), (9, .pointer (some ⟨O23, 0, none⟩)), (10, .int .i64 ((((pk30 : Nat) : Int)) - 4 : Int)), (11, .pointer (some ⟨O44, 0, none⟩)), (13, .pointer (some ⟨O63, 0, none⟩)), (14, .pointer (some ⟨O69, 0, none⟩)), (15, .int .i64 (-o.sl + ((j + 1 : Nat) : Int) : Int))]) (by kernel_rfl) _ ?_ ⟨(j + 1), B122, _, rfl, rfl, (T hs101 (T hs110 (T hs114 (T hs117 (T hs119 (T hs121 (T hs128 (T hs132 (T hs135 (T hs167 hs199)))))))))), hE, bO1_ttt170, bO1_ttt171, bO1_ttt172, bO1_ttt173, bO1_ttt174, bO1_ttt175, bO1_ttt176, bO5_ttt177, bO5_ttt178, bO14_ttt179, bO14_ttt180, bO14_ttt181, bO14_ttt182, bO14_ttt183, bO14_ttt184, bO14_ttt185, bO23_ttt186, bO23_ttt187, hrttt188, hrttt189, bO44_ttt190, bO44_ttt191, ztt198, hrtt196, (.inr ⟨Nat.succ_pos _, B106, _, (fun h => (Nat.ne_of_gt (Nat.lt_of_lt_of_le lt72 (T hs101 hn107))) h), (fun h => (Nat.ne_of_gt (Nat.lt_of_lt_of_le lt66 (T (T hs68 (T hs71 hs101)) hn107))) h), ztt193, (show RowsAt _ _ (Swath.foldM (Swath.areaJ o s ((((pk30 : Nat) : Int)) - 4)) (j + 1)) by subst hj0; exact hrtt194)⟩), (fun h => (Nat.ne_of_gt (Nat.lt_of_lt_of_le lt66 (T (T hs68 (T hs71 (T hs101 (T hs110 (T hs114 (T hs117 (T hs119 hs121))))))) hn124))) h), (fun h => (Nat.ne_of_gt (Nat.lt_of_lt_of_le lt72 (T (T hs101 (T hs110 (T hs114 (T hs117 (T hs119 hs121))))) hn124))) h), by omega⟩
    omega
  ·
    have hm13h := Lib.hid hm13
    have hm14h := Lib.hid hm14
    have lt201 := rc.lt
    by_cases hlt : j < Swath.lates o
    ·
      refine cw_seq ?_; refine cw_seq ?_; refine cw_plain ?_
      refine pT (.int .i64 (-o.sl + ((j : Nat) : Int) : Int)) ?_
      refine pT (.pointer (some ⟨O14, 6, none⟩)) ?_
      refine pl_take (.int .i64 (o.sl : Int)) rfl (by kernel_rfl) (by kernel_rfl) (by kernel_rfl) (ex_load rfl (by kernel_rfl) (ld3 (bO14_t91.1))) ?_
      refine pl_take (.bool true) rfl (by kernel_rfl) (by kernel_rfl) (by kernel_rfl) (ev_dec (show _ = Result.ok (Next.value (Value.bool (decide ((-o.sl + ((j : Nat) : Int) : Int) ≤ (o.sl : Int))))) _ from by kernel_rfl) (by omega)) ?_
      refine pl_nil ?_; refine qw_then ?_
      refine cw_t (by kernel_rfl) ?_
      refine cw_skip ?_
      refine qw_then ?_; refine cw_seq ?_
      refine cw_block ?_
      refine cw_seq ?_; refine cw_plain ?_
      refine pl_take (.agg #[.int .i64 (o.p : Int), .int .i64 (o.f : Int), .int .i64 (o.lo : Int), .int .i64 (o.hi : Int), .int .i64 (o.nd : Int), .int .i64 (o.tn : Int), .int .i64 (o.sl : Int)]) rfl (by kernel_rfl) (by kernel_rfl) (by kernel_rfl) (ex_load rfl (by kernel_rfl) (ld24 (bO14_t85.1) (bO14_t86.1) (bO14_t87.1) (bO14_t88.1) (bO14_t89.1) (bO14_t90.1) (bO14_t91.1))) ?_
      refine pl_take (.agg #[.int .i64 (s.1 : Int), .int .i64 (s.2 : Int)]) rfl (by kernel_rfl) (by kernel_rfl) (by kernel_rfl) (ex_load rfl (by kernel_rfl) (ld26 (bO23_t92.1) (bO23_t93.1))) ?_
      refine pT (.int .i64 ((((pk30 : Nat) : Int)) - 4 : Int)) ?_
      refine pT (.int .i64 (-o.sl + ((j : Nat) : Int) : Int)) ?_
      refine pS (sn_call (f := 14) (args := #[.agg #[.int .i64 (o.p : Int), .int .i64 (o.f : Int), .int .i64 (o.lo : Int), .int .i64 (o.hi : Int), .int .i64 (o.nd : Int), .int .i64 (o.tn : Int), .int .i64 (o.sl : Int)], .agg #[.int .i64 (s.1 : Int), .int .i64 (s.2 : Int)], .int .i64 ((((pk30 : Nat) : Int)) - 4 : Int), .int .i64 (-o.sl + ((j : Nat) : Int) : Int)]) (by kernel_rfl) ((Shown_y (o := o) (s := s) (lk := (((pk30 : Nat) : Int)) - 4) (d := -o.sl + ((j : Nat) : Int)) _ (Bool.and_eq_true_iff.2 ⟨Swath.shB_t.2 ⟨hok, ⟨by first | omega | (simp only []; omega), by first | omega | (simp only []; omega), by first | omega | (simp only []; omega), by first | omega | (simp only []; omega)⟩, by omega, by omega⟩, Globe.inB_t.2 ⟨by omega, by omega⟩⟩)).mono ?_))
      rintro e w205 ⟨B202, rfl, hn203, hr204, hb⟩
      replace hE := hE.trans hb; replace hX105 := hX105.trans hb; have hs206 := hb.size; clear hb; have lt207 := hr204.lt
      refine ⟨_, rfl, ?_⟩
      refine pT (.tuple #[.agg #[.slice (some ⟨B202, 0, none⟩) 24 24], .int .i64 0]) ?_
      refine pT (.agg #[.slice (some ⟨B202, 0, none⟩) 24 24]) ?_
      refine pT (.int .i64 0) ?_
      refine pS (sn_new (us := #[.slice none 0 0]) (t := 31) (by kernel_rfl) ?_)
      intro O208 X209 hO hOs hb hbx
      have hzO208 := hO; have hyO208 := hOs; clear hO hOs
      have bO208_0 : BoxAt X209 O208 0 (.slice none 0 0) := hbx 0 _ rfl
      clear hbx; replace hE := hE.trans hb; replace hX105 := hX105.trans hb; replace hr204 := hr204.ext hb; have hs210 := hb.size; clear hb; have lt211 := bO208_0.lt
      refine pl_put rfl (by kernel_rfl) (by kernel_rfl) (sn_set (O := O208) (j := 0) (v := .slice (some ⟨B202, 0, none⟩) 24 24) (ex_store (p := .pointer (some ⟨O208, 0, none⟩)) (v := .agg #[.slice (some ⟨B202, 0, none⟩) 24 24]) rfl (by kernel_rfl) (by kernel_rfl) (st31 bO208_0.1 bO208_0.2)) bO208_0 ?_)
      intro X212 ho hv0 hk
      replace hE := ho.ext hE (T (T hs3 (T hs7 (T hs11 (T hs13 (T hs16 (T hs19 (T hs22 (T hs25 (T hs28 (T hs41 (T hs46 (T hs49 (T hs52 (T hs54 (T hs56 (T hs61 (T hs65 (T hs68 (T hs71 (T hs101 hs206)))))))))))))))))))) (Nat.le_of_eq hzO208)); replace hX105 := ho.ext hX105 (T hs206 (Nat.le_of_eq hzO208)); replace hr204 := ho.rows (Nat.ne_of_gt (Nat.lt_of_lt_of_le lt207 (Nat.le_of_eq hzO208))) hr204
      have hs213 : X209.heap.size ≤ X212.heap.size := Nat.le_of_eq ho.size.symm
      clear ho hk bO208_0
      have bO208_0 := hv0; clear hv0
      refine pT (.int .i64 0) ?_
      refine pl_nil ?_; refine qw_then ?_
      refine cw_clean [7, 8, 9, 10, 11, 13, 14, 15, 16, 17] (ws' := [(7, .bool true), (8, .pointer (some ⟨O14, 0, none⟩)), (9, .pointer (some ⟨O23, 0, none⟩)), (10, .int .i64 ((((pk30 : Nat) : Int)) - 4 : Int)), (11, .pointer (some ⟨O44, 0, none⟩)), (13, .pointer (some ⟨O63, 0, none⟩)), (14, .pointer (some ⟨O69, 0, none⟩)), (15, .int .i64 (-o.sl + ((j : Nat) : Int) : Int)), (16, .pointer (some ⟨O208, 0, none⟩)), (17, .int .i64 0)]) (by kernel_rfl) (fun L => ?_)
      refine cw_seq ?_; refine cw_seq ?_; refine cw_plain ?_
      refine pT (.int .i64 0) ?_
      refine pT (.bool false) ?_
      refine pT (.bool false) ?_
      refine pl_take (.agg #[.slice (some ⟨B202, 0, none⟩) 24 24]) rfl (by kernel_rfl) (by kernel_rfl) (by kernel_rfl) (ex_load rfl (by kernel_rfl) (ld31 (bO208_0.1))) ?_
      refine pT (.pointer (some ⟨O44, 0, none⟩)) ?_
      refine pl_take (.agg #[.slice (some ⟨B31, 0, none⟩) 24 k33]) rfl (by kernel_rfl) (by kernel_rfl) (by kernel_rfl) (ex_load rfl (by kernel_rfl) (ld31 ((BoxAt.ext hX105 bO44_t96).1))) ?_
      refine pS (sn_call (f := 31) (args := #[.agg #[.slice (some ⟨B202, 0, none⟩) 24 24], .agg #[.slice (some ⟨B31, 0, none⟩) 24 k33]]) (by kernel_rfl) ((Contains_w (r := true) _ _ _ (RowsAt.va hr204 (Swath.areaJ_valid hok _ _ _)) (RowsAt.va (hrt94.ext hX105) (Swath.sure_valid hok _ _)) (Swath.sure_in hok s _ hlt)).mono ?_))
      rintro e w214 ⟨rfl, hb⟩
      replace hE := hE.trans hb; replace hX105 := hX105.trans hb; replace hr204 := hr204.ext hb; replace bO208_0 := BoxAt.ext hb bO208_0; have hs215 := hb.size; clear hb
      refine ⟨_, rfl, ?_⟩
      refine pT (.bool false) ?_
      refine pT (.bool false) ?_
      refine pT (.bool false) ?_
      refine pT (.pointer (some ⟨O44, 1, none⟩)) ?_
      refine pl_take (.agg #[.slice (some ⟨g32, 0, none⟩) 24 k34]) rfl (by kernel_rfl) (by kernel_rfl) (by kernel_rfl) (ex_load rfl (by kernel_rfl) (ld31 ((BoxAt.ext hX105 bO44_t97).1))) ?_
      refine pl_take (.agg #[.slice (some ⟨B202, 0, none⟩) 24 24]) rfl (by kernel_rfl) (by kernel_rfl) (by kernel_rfl) (ex_load rfl (by kernel_rfl) (ld31 (bO208_0.1))) ?_
      refine pS (sn_call (f := 31) (args := #[.agg #[.slice (some ⟨g32, 0, none⟩) 24 k34], .agg #[.slice (some ⟨B202, 0, none⟩) 24 24]]) (by kernel_rfl) ((Contains_w (r := true) _ _ _ (RowsAt.va (hrt95.ext hX105) (Swath.can_valid hok _ _)) (RowsAt.va hr204 (Swath.areaJ_valid hok _ _ _)) (Swath.can_has hok s _ hlt)).mono ?_))
      rintro e w216 ⟨rfl, hb⟩
      replace hE := hE.trans hb; replace hX105 := hX105.trans hb; replace hr204 := hr204.ext hb; replace bO208_0 := BoxAt.ext hb bO208_0; have hs217 := hb.size; clear hb
      refine ⟨_, rfl, ?_⟩
      refine pT (.bool false) ?_
      refine pT (.bool false) ?_
      refine pl_nil ?_; refine qw_then ?_
      refine cw_clean [7, 8, 9, 10, 11, 13, 14, 15, 16, 94] (ws' := [(7, .bool true), (8, .pointer (some ⟨O14, 0, none⟩)), (9, .pointer (some ⟨O23, 0, none⟩)), (10, .int .i64 ((((pk30 : Nat) : Int)) - 4 : Int)), (11, .pointer (some ⟨O44, 0, none⟩)), (13, .pointer (some ⟨O63, 0, none⟩)), (14, .pointer (some ⟨O69, 0, none⟩)), (15, .int .i64 (-o.sl + ((j : Nat) : Int) : Int)), (16, .pointer (some ⟨O208, 0, none⟩)), (94, .bool false)]) (by kernel_rfl) (fun L => ?_)
      refine cw_f (by kernel_rfl) ?_
      refine cw_skip ?_
      refine qw_then ?_; refine cw_seq ?_; refine cw_plain ?_
      refine pl_take (.agg #[.slice (some ⟨B9, 0, none⟩) 24 k8]) rfl (by kernel_rfl) (by kernel_rfl) (by kernel_rfl) (ex_load rfl (by kernel_rfl) (ld31 ((BoxAt.ext hX105 z1).1))) ?_
      refine pl_take (.agg #[.slice (some ⟨B202, 0, none⟩) 24 24]) rfl (by kernel_rfl) (by kernel_rfl) (by kernel_rfl) (ex_load rfl (by kernel_rfl) (ld31 (bO208_0.1))) ?_
      refine pS (sn_call (f := 30) (args := #[.agg #[.slice (some ⟨B9, 0, none⟩) 24 k8], .agg #[.slice (some ⟨B202, 0, none⟩) 24 24]]) (by kernel_rfl) ((Union_v _ _ _ (RowsAt.va (rb.ext hX105) (Swath.foldU_valid (Swath.areaJ_valid hok _ _) _)) (Ext.refl _) (RowsAt.va hr204 (Swath.areaJ_valid hok _ _ _)) (Ext.refl _)).mono ?_))
      rintro e w223 ⟨B218, k219, rfl, hn220, hr221, hv222, hb⟩
      replace hE := hE.trans hb; replace hX105 := hX105.trans hb; replace hr204 := hr204.ext hb; replace bO208_0 := BoxAt.ext hb bO208_0; have hs224 := hb.size; clear hb; have lt225 := hr221.lt
      have h9e : Globe.unionL (Swath.foldU (Swath.areaJ o s ((((pk30 : Nat) : Int)) - 4)) j) (Swath.areaJ o s ((((pk30 : Nat) : Int)) - 4) j) = Swath.foldU (Swath.areaJ o s ((((pk30 : Nat) : Int)) - 4)) (j + 1) := Swath.union_next (Swath.areaJ_valid hok s _) j
      replace hr221 : RowsAt _ B218 (Globe.unionL (Swath.foldU (Swath.areaJ o s ((((pk30 : Nat) : Int)) - 4)) j) (Swath.areaJ o s ((((pk30 : Nat) : Int)) - 4) j)) := hr221
      rw [h9e] at hr221; clear h9e
      clear hv222
      refine ⟨_, rfl, ?_⟩
      refine pT (.tuple #[.agg #[.slice (some ⟨B218, 0, none⟩) 24 k219], .int .i64 0]) ?_
      refine pT (.agg #[.slice (some ⟨B218, 0, none⟩) 24 k219]) ?_
      refine pT (.int .i64 0) ?_
      refine pS (sn_new (us := #[.slice none 0 0]) (t := 31) (by kernel_rfl) ?_)
      intro O226 X227 hO hOs hb hbx
      have hzO226 := hO; have hyO226 := hOs; clear hO hOs
      have bO226_0 : BoxAt X227 O226 0 (.slice none 0 0) := hbx 0 _ rfl
      clear hbx; replace hE := hE.trans hb; replace hX105 := hX105.trans hb; replace hr204 := hr204.ext hb; replace bO208_0 := BoxAt.ext hb bO208_0; replace hr221 := hr221.ext hb; have hs228 := hb.size; clear hb; have lt229 := bO226_0.lt
      refine pl_put rfl (by kernel_rfl) (by kernel_rfl) (sn_set (O := O226) (j := 0) (v := .slice (some ⟨B218, 0, none⟩) 24 k219) (ex_store (p := .pointer (some ⟨O226, 0, none⟩)) (v := .agg #[.slice (some ⟨B218, 0, none⟩) 24 k219]) rfl (by kernel_rfl) (by kernel_rfl) (st31 bO226_0.1 bO226_0.2)) bO226_0 ?_)
      intro X230 ho hv0 hk
      replace hE := ho.ext hE (T (T hs3 (T hs7 (T hs11 (T hs13 (T hs16 (T hs19 (T hs22 (T hs25 (T hs28 (T hs41 (T hs46 (T hs49 (T hs52 (T hs54 (T hs56 (T hs61 (T hs65 (T hs68 (T hs71 (T hs101 (T hs206 (T hs210 (T hs213 (T hs215 (T hs217 hs224))))))))))))))))))))))))) (Nat.le_of_eq hzO226)); replace hX105 := ho.ext hX105 (T (T hs206 (T hs210 (T hs213 (T hs215 (T hs217 hs224))))) (Nat.le_of_eq hzO226)); replace hr204 := ho.rows (Nat.ne_of_gt (Nat.lt_of_lt_of_le lt207 (T (T hs210 (T hs213 (T hs215 (T hs217 hs224)))) (Nat.le_of_eq hzO226)))) hr204; replace bO208_0 := ho.box (Nat.ne_of_gt (Nat.lt_of_lt_of_le lt211 (T (T hs213 (T hs215 (T hs217 hs224))) (Nat.le_of_eq hzO226)))) bO208_0; replace hr221 := ho.rows (Nat.ne_of_gt (Nat.lt_of_lt_of_le lt225 (Nat.le_of_eq hzO226))) hr221
      have hs231 : X227.heap.size ≤ X230.heap.size := Nat.le_of_eq ho.size.symm
      clear ho hk bO226_0
      have bO226_0 := hv0; clear hv0
      refine pT (.int .i64 0) ?_
      refine pl_nil ?_; refine qw_then ?_
      refine cw_clean [7, 8, 9, 10, 11, 13, 14, 15, 16, 18, 19] (ws' := [(7, .bool true), (8, .pointer (some ⟨O14, 0, none⟩)), (9, .pointer (some ⟨O23, 0, none⟩)), (10, .int .i64 ((((pk30 : Nat) : Int)) - 4 : Int)), (11, .pointer (some ⟨O44, 0, none⟩)), (13, .pointer (some ⟨O63, 0, none⟩)), (14, .pointer (some ⟨O69, 0, none⟩)), (15, .int .i64 (-o.sl + ((j : Nat) : Int) : Int)), (16, .pointer (some ⟨O208, 0, none⟩)), (18, .pointer (some ⟨O226, 0, none⟩)), (19, .int .i64 0)]) (by kernel_rfl) (fun L => ?_)
      refine cw_seq ?_; refine cw_seq ?_
      have hX232 : Ext X230 X230 := Ext.refl _
      refine cw_plain ?_
      refine pT (.int .i64 0) ?_
      refine pT (.bool false) ?_
      refine pl_nil ?_; refine qw_then ?_
      refine cw_f (by kernel_rfl) ?_
      refine cw_skip ?_
      refine qw_then ?_; refine cw_seq ?_; refine cw_plain ?_
      refine pl_take (.agg #[.slice (some ⟨B218, 0, none⟩) 24 k219]) rfl (by kernel_rfl) (by kernel_rfl) (by kernel_rfl) (ex_load rfl (by kernel_rfl) (ld31 (bO226_0.1))) ?_
      have bO1_tt234 := (BoxAt.ext (hX105.trans hX232) bO1_t75)
      have bO1_tt235 := (BoxAt.ext (hX105.trans hX232) bO1_t77)
      have bO1_tt236 := (BoxAt.ext (hX105.trans hX232) bO1_t78)
      have bO1_tt237 := (BoxAt.ext (hX105.trans hX232) bO1_t79)
      have bO1_tt238 := (BoxAt.ext (hX105.trans hX232) bO1_t80)
      have bO1_tt239 := (BoxAt.ext (hX105.trans hX232) bO1_t81)
      have bO1_tt240 := (BoxAt.ext (hX105.trans hX232) bO1_t82)
      have bO5_tt241 := (BoxAt.ext (hX105.trans hX232) bO5_t83)
      have bO5_tt242 := (BoxAt.ext (hX105.trans hX232) bO5_t84)
      have bO14_tt243 := (BoxAt.ext (hX105.trans hX232) bO14_t85)
      have bO14_tt244 := (BoxAt.ext (hX105.trans hX232) bO14_t86)
      have bO14_tt245 := (BoxAt.ext (hX105.trans hX232) bO14_t87)
      have bO14_tt246 := (BoxAt.ext (hX105.trans hX232) bO14_t88)
      have bO14_tt247 := (BoxAt.ext (hX105.trans hX232) bO14_t89)
      have bO14_tt248 := (BoxAt.ext (hX105.trans hX232) bO14_t90)
      have bO14_tt249 := (BoxAt.ext (hX105.trans hX232) bO14_t91)
      have bO23_tt250 := (BoxAt.ext (hX105.trans hX232) bO23_t92)
      have bO23_tt251 := (BoxAt.ext (hX105.trans hX232) bO23_t93)
      have hrtt252 := (hrt94.ext (hX105.trans hX232))
      have hrtt253 := (hrt95.ext (hX105.trans hX232))
      have bO44_tt254 := (BoxAt.ext (hX105.trans hX232) bO44_t96)
      have bO44_tt255 := (BoxAt.ext (hX105.trans hX232) bO44_t97)
      have zt256 := (BoxAt.ext (hX105.trans hX232) z1)
      have rbt257 := (rb.ext (hX105.trans hX232))
      have zt258 := (BoxAt.ext (hX105.trans hX232) z2)
      have rct259 := (rc.ext (hX105.trans hX232))
      have hrt260 := hr204
      have bO208_t261 := bO208_0
      have hrt262 := hr221
      have bO226_t263 := bO226_0
      refine pl_put rfl (by kernel_rfl) (by kernel_rfl) (sn_set (O := O63) (j := 0) (v := .slice (some ⟨B218, 0, none⟩) 24 k219) (ex_store (p := .pointer (some ⟨O63, 0, none⟩)) (v := .agg #[.slice (some ⟨B218, 0, none⟩) 24 k219]) rfl (by kernel_rfl) (by kernel_rfl) (st31 zt256.1 zt256.2)) zt256 ?_)
      intro X233 ho hv0 hk
      replace hE := ho.ext hE (T (T hs3 (T hs7 (T hs11 (T hs13 (T hs16 (T hs19 (T hs22 (T hs25 (T hs28 (T hs41 (T hs46 (T hs49 (T hs52 (T hs54 (T hs56 hs61))))))))))))))) (Nat.le_of_eq hzO63)); replace bO1_tt234 := ho.box (Nat.ne_of_gt (Nat.lt_of_lt_of_le lt4 (T (T hs7 (T hs11 (T hs13 (T hs16 (T hs19 (T hs22 (T hs25 (T hs28 (T hs41 (T hs46 (T hs49 (T hs52 (T hs54 (T hs56 hs61)))))))))))))) (Nat.le_of_eq hzO63)))) bO1_tt234; replace bO1_tt235 := ho.box (Nat.ne_of_gt (Nat.lt_of_lt_of_le lt4 (T (T hs7 (T hs11 (T hs13 (T hs16 (T hs19 (T hs22 (T hs25 (T hs28 (T hs41 (T hs46 (T hs49 (T hs52 (T hs54 (T hs56 hs61)))))))))))))) (Nat.le_of_eq hzO63)))) bO1_tt235; replace bO1_tt236 := ho.box (Nat.ne_of_gt (Nat.lt_of_lt_of_le lt4 (T (T hs7 (T hs11 (T hs13 (T hs16 (T hs19 (T hs22 (T hs25 (T hs28 (T hs41 (T hs46 (T hs49 (T hs52 (T hs54 (T hs56 hs61)))))))))))))) (Nat.le_of_eq hzO63)))) bO1_tt236; replace bO1_tt237 := ho.box (Nat.ne_of_gt (Nat.lt_of_lt_of_le lt4 (T (T hs7 (T hs11 (T hs13 (T hs16 (T hs19 (T hs22 (T hs25 (T hs28 (T hs41 (T hs46 (T hs49 (T hs52 (T hs54 (T hs56 hs61)))))))))))))) (Nat.le_of_eq hzO63)))) bO1_tt237; replace bO1_tt238 := ho.box (Nat.ne_of_gt (Nat.lt_of_lt_of_le lt4 (T (T hs7 (T hs11 (T hs13 (T hs16 (T hs19 (T hs22 (T hs25 (T hs28 (T hs41 (T hs46 (T hs49 (T hs52 (T hs54 (T hs56 hs61)))))))))))))) (Nat.le_of_eq hzO63)))) bO1_tt238; replace bO1_tt239 := ho.box (Nat.ne_of_gt (Nat.lt_of_lt_of_le lt4 (T (T hs7 (T hs11 (T hs13 (T hs16 (T hs19 (T hs22 (T hs25 (T hs28 (T hs41 (T hs46 (T hs49 (T hs52 (T hs54 (T hs56 hs61)))))))))))))) (Nat.le_of_eq hzO63)))) bO1_tt239; replace bO1_tt240 := ho.box (Nat.ne_of_gt (Nat.lt_of_lt_of_le lt4 (T (T hs7 (T hs11 (T hs13 (T hs16 (T hs19 (T hs22 (T hs25 (T hs28 (T hs41 (T hs46 (T hs49 (T hs52 (T hs54 (T hs56 hs61)))))))))))))) (Nat.le_of_eq hzO63)))) bO1_tt240; replace bO5_tt241 := ho.box (Nat.ne_of_gt (Nat.lt_of_lt_of_le lt8 (T (T hs11 (T hs13 (T hs16 (T hs19 (T hs22 (T hs25 (T hs28 (T hs41 (T hs46 (T hs49 (T hs52 (T hs54 (T hs56 hs61))))))))))))) (Nat.le_of_eq hzO63)))) bO5_tt241; replace bO5_tt242 := ho.box (Nat.ne_of_gt (Nat.lt_of_lt_of_le lt8 (T (T hs11 (T hs13 (T hs16 (T hs19 (T hs22 (T hs25 (T hs28 (T hs41 (T hs46 (T hs49 (T hs52 (T hs54 (T hs56 hs61))))))))))))) (Nat.le_of_eq hzO63)))) bO5_tt242; replace bO14_tt243 := ho.box (Nat.ne_of_gt (Nat.lt_of_lt_of_le lt17 (T (T hs19 (T hs22 (T hs25 (T hs28 (T hs41 (T hs46 (T hs49 (T hs52 (T hs54 (T hs56 hs61)))))))))) (Nat.le_of_eq hzO63)))) bO14_tt243; replace bO14_tt244 := ho.box (Nat.ne_of_gt (Nat.lt_of_lt_of_le lt17 (T (T hs19 (T hs22 (T hs25 (T hs28 (T hs41 (T hs46 (T hs49 (T hs52 (T hs54 (T hs56 hs61)))))))))) (Nat.le_of_eq hzO63)))) bO14_tt244; replace bO14_tt245 := ho.box (Nat.ne_of_gt (Nat.lt_of_lt_of_le lt17 (T (T hs19 (T hs22 (T hs25 (T hs28 (T hs41 (T hs46 (T hs49 (T hs52 (T hs54 (T hs56 hs61)))))))))) (Nat.le_of_eq hzO63)))) bO14_tt245; replace bO14_tt246 := ho.box (Nat.ne_of_gt (Nat.lt_of_lt_of_le lt17 (T (T hs19 (T hs22 (T hs25 (T hs28 (T hs41 (T hs46 (T hs49 (T hs52 (T hs54 (T hs56 hs61)))))))))) (Nat.le_of_eq hzO63)))) bO14_tt246; replace bO14_tt247 := ho.box (Nat.ne_of_gt (Nat.lt_of_lt_of_le lt17 (T (T hs19 (T hs22 (T hs25 (T hs28 (T hs41 (T hs46 (T hs49 (T hs52 (T hs54 (T hs56 hs61)))))))))) (Nat.le_of_eq hzO63)))) bO14_tt247; replace bO14_tt248 := ho.box (Nat.ne_of_gt (Nat.lt_of_lt_of_le lt17 (T (T hs19 (T hs22 (T hs25 (T hs28 (T hs41 (T hs46 (T hs49 (T hs52 (T hs54 (T hs56 hs61)))))))))) (Nat.le_of_eq hzO63)))) bO14_tt248; replace bO14_tt249 := ho.box (Nat.ne_of_gt (Nat.lt_of_lt_of_le lt17 (T (T hs19 (T hs22 (T hs25 (T hs28 (T hs41 (T hs46 (T hs49 (T hs52 (T hs54 (T hs56 hs61)))))))))) (Nat.le_of_eq hzO63)))) bO14_tt249; replace bO23_tt250 := ho.box (Nat.ne_of_gt (Nat.lt_of_lt_of_le lt26 (T (T hs28 (T hs41 (T hs46 (T hs49 (T hs52 (T hs54 (T hs56 hs61))))))) (Nat.le_of_eq hzO63)))) bO23_tt250; replace bO23_tt251 := ho.box (Nat.ne_of_gt (Nat.lt_of_lt_of_le lt26 (T (T hs28 (T hs41 (T hs46 (T hs49 (T hs52 (T hs54 (T hs56 hs61))))))) (Nat.le_of_eq hzO63)))) bO23_tt251
      replace hrtt252 := ho.rows (Nat.ne_of_gt (Nat.lt_of_lt_of_le lt42 (T (T hs46 (T hs49 (T hs52 (T hs54 (T hs56 hs61))))) (Nat.le_of_eq hzO63)))) hrtt252; replace hrtt253 := ho.rows (Nat.ne_of_gt (Nat.lt_of_lt_of_le lt43 (T (T hs46 (T hs49 (T hs52 (T hs54 (T hs56 hs61))))) (Nat.le_of_eq hzO63)))) hrtt253; replace bO44_tt254 := ho.box (Nat.ne_of_gt (Nat.lt_of_lt_of_le lt47 (T (T hs49 (T hs52 (T hs54 (T hs56 hs61)))) (Nat.le_of_eq hzO63)))) bO44_tt254; replace bO44_tt255 := ho.box (Nat.ne_of_gt (Nat.lt_of_lt_of_le lt47 (T (T hs49 (T hs52 (T hs54 (T hs56 hs61)))) (Nat.le_of_eq hzO63)))) bO44_tt255; replace rbt257 := ho.rows (Ne.symm hn13h.out) rbt257; replace zt258 := ho.box (Nat.ne_of_lt (Nat.lt_of_lt_of_le lt66 (T hs68 (Nat.le_of_eq hzO69)))) zt258; replace rct259 := ho.rows (Ne.symm hm13h.out) rct259; replace hrt260 := ho.rows (Nat.ne_of_lt (Nat.lt_of_lt_of_le lt66 (T (T hs68 (T hs71 hs101)) hn203))) hrt260; replace bO208_t261 := ho.box (Nat.ne_of_lt (Nat.lt_of_lt_of_le lt66 (T (T hs68 (T hs71 (T hs101 hs206))) (Nat.le_of_eq hzO208)))) bO208_t261; replace hrt262 := ho.rows (Nat.ne_of_lt (Nat.lt_of_lt_of_le lt66 (T (T hs68 (T hs71 (T hs101 (T hs206 (T hs210 (T hs213 (T hs215 hs217))))))) hn220))) hrt262; replace bO226_t263 := ho.box (Nat.ne_of_lt (Nat.lt_of_lt_of_le lt66 (T (T hs68 (T hs71 (T hs101 (T hs206 (T hs210 (T hs213 (T hs215 (T hs217 hs224)))))))) (Nat.le_of_eq hzO226)))) bO226_t263
      have hs264 : X230.heap.size ≤ X233.heap.size := Nat.le_of_eq ho.size.symm
      clear ho hk zt256
      have zt256 := hv0; clear hv0
      refine pl_nil ?_; refine qw_then ?_; refine cw_seq ?_; refine cw_seq ?_
      have hX265 : Ext X233 X233 := Ext.refl _
      refine cw_plain ?_
      refine pT (.int .i64 (-o.sl + ((j : Nat) : Int) : Int)) ?_
      refine pT (.pointer (some ⟨O14, 6, none⟩)) ?_
      refine pl_take (.int .i64 (o.sl : Int)) rfl (by kernel_rfl) (by kernel_rfl) (by kernel_rfl) (ex_load rfl (by kernel_rfl) (ld3 (bO14_tt249.1))) ?_
      refine pl_take (.int .i64 (-o.sl : Int)) rfl (by kernel_rfl) (by kernel_rfl) (by kernel_rfl) (ev_int (ev_wrap (a := 0 - o.sl) (by kernel_rfl) (by omega) (by omega)) (by omega)) ?_
      refine pl_take (.bool false) rfl (by kernel_rfl) (by kernel_rfl) (by kernel_rfl) (ev_neq (show _ = Result.ok (Next.value (Value.bool ((-o.sl + ((j : Nat) : Int) : Int) == (-o.sl : Int)))) _ from by kernel_rfl) (by omega)) ?_
      refine pl_nil ?_; refine qw_then ?_
      refine cw_clean [7, 8, 9, 10, 11, 13, 14, 15, 16, 108] (ws' := [(7, .bool true), (8, .pointer (some ⟨O14, 0, none⟩)), (9, .pointer (some ⟨O23, 0, none⟩)), (10, .int .i64 ((((pk30 : Nat) : Int)) - 4 : Int)), (11, .pointer (some ⟨O44, 0, none⟩)), (13, .pointer (some ⟨O63, 0, none⟩)), (14, .pointer (some ⟨O69, 0, none⟩)), (15, .int .i64 (-o.sl + ((j : Nat) : Int) : Int)), (16, .pointer (some ⟨O208, 0, none⟩)), (108, .bool false)]) (by kernel_rfl) (fun L => ?_)
      refine cw_f (by kernel_rfl) ?_
      refine cw_skip ?_
      refine qw_then ?_; refine cw_seq ?_; refine cw_plain ?_
      refine pl_take (.agg #[.slice (some ⟨C9, 0, none⟩) 24 k9]) rfl (by kernel_rfl) (by kernel_rfl) (by kernel_rfl) (ex_load rfl (by kernel_rfl) (ld31 (zt258.1))) ?_
      refine pl_take (.agg #[.slice (some ⟨B202, 0, none⟩) 24 24]) rfl (by kernel_rfl) (by kernel_rfl) (by kernel_rfl) (ex_load rfl (by kernel_rfl) (ld31 (bO208_t261.1))) ?_
      refine pS (sn_call (f := 35) (args := #[.agg #[.slice (some ⟨C9, 0, none⟩) 24 k9], .agg #[.slice (some ⟨B202, 0, none⟩) 24 24]]) (by kernel_rfl) ((Meet_v _ _ _ (RowsAt.va rct259 (Swath.foldM_valid (Swath.areaJ_valid hok _ _) _)) (Ext.refl _) (RowsAt.va hrt260 (Swath.areaJ_valid hok _ _ _)) (Ext.refl _)).mono ?_))
      rintro e w271 ⟨B266, k267, rfl, hn268, hr269, hv270, hb⟩
      replace hE := hE.trans hb; replace hX265 := hX265.trans hb; have hs272 := hb.size; clear hb; have lt273 := hr269.lt
      have h9e : Globe.meetL (Swath.foldM (Swath.areaJ o s ((((pk30 : Nat) : Int)) - 4)) j) (Swath.areaJ o s ((((pk30 : Nat) : Int)) - 4) j) = Swath.foldM (Swath.areaJ o s ((((pk30 : Nat) : Int)) - 4)) (j + 1) := (Swath.foldM_succ hj0).symm
      replace hr269 : RowsAt _ B266 (Globe.meetL (Swath.foldM (Swath.areaJ o s ((((pk30 : Nat) : Int)) - 4)) j) (Swath.areaJ o s ((((pk30 : Nat) : Int)) - 4) j)) := hr269
      rw [h9e] at hr269; clear h9e
      clear hv270
      refine ⟨_, rfl, ?_⟩
      refine pT (.tuple #[.agg #[.slice (some ⟨B266, 0, none⟩) 24 k267], .int .i64 0]) ?_
      refine pT (.agg #[.slice (some ⟨B266, 0, none⟩) 24 k267]) ?_
      refine pT (.int .i64 0) ?_
      refine pS (sn_new (us := #[.slice none 0 0]) (t := 31) (by kernel_rfl) ?_)
      intro O274 X275 hO hOs hb hbx
      have hzO274 := hO; have hyO274 := hOs; clear hO hOs
      have bO274_0 : BoxAt X275 O274 0 (.slice none 0 0) := hbx 0 _ rfl
      clear hbx; replace hE := hE.trans hb; replace hX265 := hX265.trans hb; replace hr269 := hr269.ext hb; have hs276 := hb.size; clear hb; have lt277 := bO274_0.lt
      refine pl_put rfl (by kernel_rfl) (by kernel_rfl) (sn_set (O := O274) (j := 0) (v := .slice (some ⟨B266, 0, none⟩) 24 k267) (ex_store (p := .pointer (some ⟨O274, 0, none⟩)) (v := .agg #[.slice (some ⟨B266, 0, none⟩) 24 k267]) rfl (by kernel_rfl) (by kernel_rfl) (st31 bO274_0.1 bO274_0.2)) bO274_0 ?_)
      intro X278 ho hv0 hk
      replace hE := ho.ext hE (T (T hs3 (T hs7 (T hs11 (T hs13 (T hs16 (T hs19 (T hs22 (T hs25 (T hs28 (T hs41 (T hs46 (T hs49 (T hs52 (T hs54 (T hs56 (T hs61 (T hs65 (T hs68 (T hs71 (T hs101 (T hs206 (T hs210 (T hs213 (T hs215 (T hs217 (T hs224 (T hs228 (T hs231 (T hs264 hs272))))))))))))))))))))))))))))) (Nat.le_of_eq hzO274)); replace hX265 := ho.ext hX265 (T hs272 (Nat.le_of_eq hzO274)); replace hr269 := ho.rows (Nat.ne_of_gt (Nat.lt_of_lt_of_le lt273 (Nat.le_of_eq hzO274))) hr269
      have hs279 : X275.heap.size ≤ X278.heap.size := Nat.le_of_eq ho.size.symm
      clear ho hk bO274_0
      have bO274_0 := hv0; clear hv0
      refine pT (.int .i64 0) ?_
      refine pl_nil ?_; refine qw_then ?_
      refine cw_clean [7, 8, 9, 10, 11, 13, 14, 15, 20, 21] (ws' := [(7, .bool true), (8, .pointer (some ⟨O14, 0, none⟩)), (9, .pointer (some ⟨O23, 0, none⟩)), (10, .int .i64 ((((pk30 : Nat) : Int)) - 4 : Int)), (11, .pointer (some ⟨O44, 0, none⟩)), (13, .pointer (some ⟨O63, 0, none⟩)), (14, .pointer (some ⟨O69, 0, none⟩)), (15, .int .i64 (-o.sl + ((j : Nat) : Int) : Int)), (20, .pointer (some ⟨O274, 0, none⟩)), (21, .int .i64 0)]) (by kernel_rfl) (fun L => ?_)
      refine cw_seq ?_; refine cw_seq ?_; refine cw_plain ?_
      refine pT (.int .i64 0) ?_
      refine pT (.bool false) ?_
      refine pl_nil ?_; refine qw_then ?_
      refine cw_f (by kernel_rfl) ?_
      refine cw_skip ?_
      refine qw_then ?_; refine cw_plain ?_
      refine pl_take (.agg #[.slice (some ⟨B266, 0, none⟩) 24 k267]) rfl (by kernel_rfl) (by kernel_rfl) (by kernel_rfl) (ex_load rfl (by kernel_rfl) (ld31 (bO274_0.1))) ?_
      have bO1_ttt281 := (BoxAt.ext hX265 bO1_tt234)
      have bO1_ttt282 := (BoxAt.ext hX265 bO1_tt235)
      have bO1_ttt283 := (BoxAt.ext hX265 bO1_tt236)
      have bO1_ttt284 := (BoxAt.ext hX265 bO1_tt237)
      have bO1_ttt285 := (BoxAt.ext hX265 bO1_tt238)
      have bO1_ttt286 := (BoxAt.ext hX265 bO1_tt239)
      have bO1_ttt287 := (BoxAt.ext hX265 bO1_tt240)
      have bO5_ttt288 := (BoxAt.ext hX265 bO5_tt241)
      have bO5_ttt289 := (BoxAt.ext hX265 bO5_tt242)
      have bO14_ttt290 := (BoxAt.ext hX265 bO14_tt243)
      have bO14_ttt291 := (BoxAt.ext hX265 bO14_tt244)
      have bO14_ttt292 := (BoxAt.ext hX265 bO14_tt245)
      have bO14_ttt293 := (BoxAt.ext hX265 bO14_tt246)
      have bO14_ttt294 := (BoxAt.ext hX265 bO14_tt247)
      have bO14_ttt295 := (BoxAt.ext hX265 bO14_tt248)
      have bO14_ttt296 := (BoxAt.ext hX265 bO14_tt249)
      have bO23_ttt297 := (BoxAt.ext hX265 bO23_tt250)
      have bO23_ttt298 := (BoxAt.ext hX265 bO23_tt251)
      have hrttt299 := (hrtt252.ext hX265)
      have hrttt300 := (hrtt253.ext hX265)
      have bO44_ttt301 := (BoxAt.ext hX265 bO44_tt254)
      have bO44_ttt302 := (BoxAt.ext hX265 bO44_tt255)
      have rbtt303 := (rbt257.ext hX265)
      have ztt304 := (BoxAt.ext hX265 zt258)
      have rctt305 := (rct259.ext hX265)
      have hrtt306 := (hrt260.ext hX265)
      have bO208_tt307 := (BoxAt.ext hX265 bO208_t261)
      have hrtt308 := (hrt262.ext hX265)
      have bO226_tt309 := (BoxAt.ext hX265 bO226_t263)
      have ztt310 := (BoxAt.ext hX265 zt256)
      refine pl_put rfl (by kernel_rfl) (by kernel_rfl) (sn_set (O := O69) (j := 0) (v := .slice (some ⟨B266, 0, none⟩) 24 k267) (ex_store (p := .pointer (some ⟨O69, 0, none⟩)) (v := .agg #[.slice (some ⟨B266, 0, none⟩) 24 k267]) rfl (by kernel_rfl) (by kernel_rfl) (st31 ztt304.1 ztt304.2)) ztt304 ?_)
      intro X280 ho hv0 hk
      replace hE := ho.ext hE (T (T hs3 (T hs7 (T hs11 (T hs13 (T hs16 (T hs19 (T hs22 (T hs25 (T hs28 (T hs41 (T hs46 (T hs49 (T hs52 (T hs54 (T hs56 (T hs61 (T hs65 hs68))))))))))))))))) (Nat.le_of_eq hzO69)); replace bO1_ttt281 := ho.box (Nat.ne_of_gt (Nat.lt_of_lt_of_le lt4 (T (T hs7 (T hs11 (T hs13 (T hs16 (T hs19 (T hs22 (T hs25 (T hs28 (T hs41 (T hs46 (T hs49 (T hs52 (T hs54 (T hs56 (T hs61 (T hs65 hs68)))))))))))))))) (Nat.le_of_eq hzO69)))) bO1_ttt281; replace bO1_ttt282 := ho.box (Nat.ne_of_gt (Nat.lt_of_lt_of_le lt4 (T (T hs7 (T hs11 (T hs13 (T hs16 (T hs19 (T hs22 (T hs25 (T hs28 (T hs41 (T hs46 (T hs49 (T hs52 (T hs54 (T hs56 (T hs61 (T hs65 hs68)))))))))))))))) (Nat.le_of_eq hzO69)))) bO1_ttt282; replace bO1_ttt283 := ho.box (Nat.ne_of_gt (Nat.lt_of_lt_of_le lt4 (T (T hs7 (T hs11 (T hs13 (T hs16 (T hs19 (T hs22 (T hs25 (T hs28 (T hs41 (T hs46 (T hs49 (T hs52 (T hs54 (T hs56 (T hs61 (T hs65 hs68)))))))))))))))) (Nat.le_of_eq hzO69)))) bO1_ttt283; replace bO1_ttt284 := ho.box (Nat.ne_of_gt (Nat.lt_of_lt_of_le lt4 (T (T hs7 (T hs11 (T hs13 (T hs16 (T hs19 (T hs22 (T hs25 (T hs28 (T hs41 (T hs46 (T hs49 (T hs52 (T hs54 (T hs56 (T hs61 (T hs65 hs68)))))))))))))))) (Nat.le_of_eq hzO69)))) bO1_ttt284; replace bO1_ttt285 := ho.box (Nat.ne_of_gt (Nat.lt_of_lt_of_le lt4 (T (T hs7 (T hs11 (T hs13 (T hs16 (T hs19 (T hs22 (T hs25 (T hs28 (T hs41 (T hs46 (T hs49 (T hs52 (T hs54 (T hs56 (T hs61 (T hs65 hs68)))))))))))))))) (Nat.le_of_eq hzO69)))) bO1_ttt285; replace bO1_ttt286 := ho.box (Nat.ne_of_gt (Nat.lt_of_lt_of_le lt4 (T (T hs7 (T hs11 (T hs13 (T hs16 (T hs19 (T hs22 (T hs25 (T hs28 (T hs41 (T hs46 (T hs49 (T hs52 (T hs54 (T hs56 (T hs61 (T hs65 hs68)))))))))))))))) (Nat.le_of_eq hzO69)))) bO1_ttt286; replace bO1_ttt287 := ho.box (Nat.ne_of_gt (Nat.lt_of_lt_of_le lt4 (T (T hs7 (T hs11 (T hs13 (T hs16 (T hs19 (T hs22 (T hs25 (T hs28 (T hs41 (T hs46 (T hs49 (T hs52 (T hs54 (T hs56 (T hs61 (T hs65 hs68)))))))))))))))) (Nat.le_of_eq hzO69)))) bO1_ttt287; replace bO5_ttt288 := ho.box (Nat.ne_of_gt (Nat.lt_of_lt_of_le lt8 (T (T hs11 (T hs13 (T hs16 (T hs19 (T hs22 (T hs25 (T hs28 (T hs41 (T hs46 (T hs49 (T hs52 (T hs54 (T hs56 (T hs61 (T hs65 hs68))))))))))))))) (Nat.le_of_eq hzO69)))) bO5_ttt288; replace bO5_ttt289 := ho.box (Nat.ne_of_gt (Nat.lt_of_lt_of_le lt8 (T (T hs11 (T hs13 (T hs16 (T hs19 (T hs22 (T hs25 (T hs28 (T hs41 (T hs46 (T hs49 (T hs52 (T hs54 (T hs56 (T hs61 (T hs65 hs68))))))))))))))) (Nat.le_of_eq hzO69)))) bO5_ttt289; replace bO14_ttt290 := ho.box (Nat.ne_of_gt (Nat.lt_of_lt_of_le lt17 (T (T hs19 (T hs22 (T hs25 (T hs28 (T hs41 (T hs46 (T hs49 (T hs52 (T hs54 (T hs56 (T hs61 (T hs65 hs68)))))))))))) (Nat.le_of_eq hzO69)))) bO14_ttt290; replace bO14_ttt291 := ho.box (Nat.ne_of_gt (Nat.lt_of_lt_of_le lt17 (T (T hs19 (T hs22 (T hs25 (T hs28 (T hs41 (T hs46 (T hs49 (T hs52 (T hs54 (T hs56 (T hs61 (T hs65 hs68)))))))))))) (Nat.le_of_eq hzO69)))) bO14_ttt291; replace bO14_ttt292 := ho.box (Nat.ne_of_gt (Nat.lt_of_lt_of_le lt17 (T (T hs19 (T hs22 (T hs25 (T hs28 (T hs41 (T hs46 (T hs49 (T hs52 (T hs54 (T hs56 (T hs61 (T hs65 hs68)))))))))))) (Nat.le_of_eq hzO69)))) bO14_ttt292; replace bO14_ttt293 := ho.box (Nat.ne_of_gt (Nat.lt_of_lt_of_le lt17 (T (T hs19 (T hs22 (T hs25 (T hs28 (T hs41 (T hs46 (T hs49 (T hs52 (T hs54 (T hs56 (T hs61 (T hs65 hs68)))))))))))) (Nat.le_of_eq hzO69)))) bO14_ttt293; replace bO14_ttt294 := ho.box (Nat.ne_of_gt (Nat.lt_of_lt_of_le lt17 (T (T hs19 (T hs22 (T hs25 (T hs28 (T hs41 (T hs46 (T hs49 (T hs52 (T hs54 (T hs56 (T hs61 (T hs65 hs68)))))))))))) (Nat.le_of_eq hzO69)))) bO14_ttt294; replace bO14_ttt295 := ho.box (Nat.ne_of_gt (Nat.lt_of_lt_of_le lt17 (T (T hs19 (T hs22 (T hs25 (T hs28 (T hs41 (T hs46 (T hs49 (T hs52 (T hs54 (T hs56 (T hs61 (T hs65 hs68)))))))))))) (Nat.le_of_eq hzO69)))) bO14_ttt295; replace bO14_ttt296 := ho.box (Nat.ne_of_gt (Nat.lt_of_lt_of_le lt17 (T (T hs19 (T hs22 (T hs25 (T hs28 (T hs41 (T hs46 (T hs49 (T hs52 (T hs54 (T hs56 (T hs61 (T hs65 hs68)))))))))))) (Nat.le_of_eq hzO69)))) bO14_ttt296
      replace bO23_ttt297 := ho.box (Nat.ne_of_gt (Nat.lt_of_lt_of_le lt26 (T (T hs28 (T hs41 (T hs46 (T hs49 (T hs52 (T hs54 (T hs56 (T hs61 (T hs65 hs68))))))))) (Nat.le_of_eq hzO69)))) bO23_ttt297; replace bO23_ttt298 := ho.box (Nat.ne_of_gt (Nat.lt_of_lt_of_le lt26 (T (T hs28 (T hs41 (T hs46 (T hs49 (T hs52 (T hs54 (T hs56 (T hs61 (T hs65 hs68))))))))) (Nat.le_of_eq hzO69)))) bO23_ttt298; replace hrttt299 := ho.rows (Nat.ne_of_gt (Nat.lt_of_lt_of_le lt42 (T (T hs46 (T hs49 (T hs52 (T hs54 (T hs56 (T hs61 (T hs65 hs68))))))) (Nat.le_of_eq hzO69)))) hrttt299; replace hrttt300 := ho.rows (Nat.ne_of_gt (Nat.lt_of_lt_of_le lt43 (T (T hs46 (T hs49 (T hs52 (T hs54 (T hs56 (T hs61 (T hs65 hs68))))))) (Nat.le_of_eq hzO69)))) hrttt300; replace bO44_ttt301 := ho.box (Nat.ne_of_gt (Nat.lt_of_lt_of_le lt47 (T (T hs49 (T hs52 (T hs54 (T hs56 (T hs61 (T hs65 hs68)))))) (Nat.le_of_eq hzO69)))) bO44_ttt301; replace bO44_ttt302 := ho.box (Nat.ne_of_gt (Nat.lt_of_lt_of_le lt47 (T (T hs49 (T hs52 (T hs54 (T hs56 (T hs61 (T hs65 hs68)))))) (Nat.le_of_eq hzO69)))) bO44_ttt302; replace rbtt303 := ho.rows (Ne.symm hn14h.out) rbtt303; replace rctt305 := ho.rows (Ne.symm hm14h.out) rctt305; replace hrtt306 := ho.rows (Nat.ne_of_lt (Nat.lt_of_lt_of_le lt72 (T hs101 hn203))) hrtt306; replace bO208_tt307 := ho.box (Nat.ne_of_lt (Nat.lt_of_lt_of_le lt72 (T (T hs101 hs206) (Nat.le_of_eq hzO208)))) bO208_tt307; replace hrtt308 := ho.rows (Nat.ne_of_lt (Nat.lt_of_lt_of_le lt72 (T (T hs101 (T hs206 (T hs210 (T hs213 (T hs215 hs217))))) hn220))) hrtt308; replace bO226_tt309 := ho.box (Nat.ne_of_lt (Nat.lt_of_lt_of_le lt72 (T (T hs101 (T hs206 (T hs210 (T hs213 (T hs215 (T hs217 hs224)))))) (Nat.le_of_eq hzO226)))) bO226_tt309; replace ztt310 := ho.box (Nat.ne_of_gt (Nat.lt_of_lt_of_le lt66 (T hs68 (Nat.le_of_eq hzO69)))) ztt310; replace hr269 := ho.rows (Nat.ne_of_lt (Nat.lt_of_lt_of_le lt72 (T (T hs101 (T hs206 (T hs210 (T hs213 (T hs215 (T hs217 (T hs224 (T hs228 (T hs231 hs264))))))))) hn268))) hr269; replace bO274_0 := ho.box (Nat.ne_of_lt (Nat.lt_of_lt_of_le lt72 (T (T hs101 (T hs206 (T hs210 (T hs213 (T hs215 (T hs217 (T hs224 (T hs228 (T hs231 (T hs264 hs272)))))))))) (Nat.le_of_eq hzO274)))) bO274_0
      have hs311 : X278.heap.size ≤ X280.heap.size := Nat.le_of_eq ho.size.symm
      clear ho hk ztt304
      have ztt304 := hv0; clear hv0
      refine pl_nil ?_
      refine qw_block ?_
      refine qw_then ?_
      have hX312 : Ext X280 X280 := Ext.refl _
      refine cw_plain ?_
      refine pT (.int .i64 (-o.sl + ((j : Nat) : Int) : Int)) ?_
      refine pl_take (.int .i64 (-o.sl + ((j + 1 : Nat) : Int) : Int)) rfl (by kernel_rfl) (by kernel_rfl) (by kernel_rfl) (ev_int (ev_wrap (a := -o.sl + ((j : Nat) : Int) + 1) (by kernel_rfl) (by omega) (by omega)) (by omega)) ?_
      refine pT (.int .i64 (-o.sl + ((j + 1 : Nat) : Int) : Int)) ?_
      refine pl_nil ?_
      refine qw_round [7, 8, 9, 10, 11, 13, 14, 15] (ws' := [(7, .bool true), (8, .pointer (some ⟨O14, 0, none⟩)), (9, .pointer (some ⟨O23, 0, none⟩)), (10, .int .i64 ((((pk30 : Nat) : Int)) - 4 : Int)), (11, .pointer (some ⟨O44, 0, none⟩)), (13, .pointer (some ⟨O63, 0, none⟩)), (14, .pointer (some ⟨O69, 0, none⟩)), (15, .int .i64 (-o.sl + ((j + 1 : Nat) : Int) : Int))]) (by kernel_rfl) _ ?_ ⟨(j + 1), B218, _, rfl, rfl, (T hs101 (T hs206 (T hs210 (T hs213 (T hs215 (T hs217 (T hs224 (T hs228 (T hs231 (T hs264 (T hs272 (T hs276 (T hs279 hs311))))))))))))), hE, bO1_ttt281, bO1_ttt282, bO1_ttt283, bO1_ttt284, bO1_ttt285, bO1_ttt286, bO1_ttt287, bO5_ttt288, bO5_ttt289, bO14_ttt290, bO14_ttt291, bO14_ttt292, bO14_ttt293, bO14_ttt294, bO14_ttt295, bO14_ttt296, bO23_ttt297, bO23_ttt298, hrttt299, hrttt300, bO44_ttt301, bO44_ttt302, ztt310, hrtt308, (.inr ⟨Nat.succ_pos _, B266, _, (fun h => (Nat.ne_of_gt (Nat.lt_of_lt_of_le lt72 (T (T hs101 (T hs206 (T hs210 (T hs213 (T hs215 (T hs217 (T hs224 (T hs228 (T hs231 hs264))))))))) hn268))) h), (fun h => (Nat.ne_of_gt (Nat.lt_of_lt_of_le lt66 (T (T hs68 (T hs71 (T hs101 (T hs206 (T hs210 (T hs213 (T hs215 (T hs217 (T hs224 (T hs228 (T hs231 hs264))))))))))) hn268))) h), ztt304, hr269⟩), (fun h => (Nat.ne_of_gt (Nat.lt_of_lt_of_le lt66 (T (T hs68 (T hs71 (T hs101 (T hs206 (T hs210 (T hs213 (T hs215 hs217))))))) hn220))) h), (fun h => (Nat.ne_of_gt (Nat.lt_of_lt_of_le lt72 (T (T hs101 (T hs206 (T hs210 (T hs213 (T hs215 hs217))))) hn220))) h), by omega⟩
      omega
    ·
      have hjn : j = Swath.lates o := by omega
      refine cw_seq ?_; refine cw_seq ?_; refine cw_plain ?_
      refine pT (.int .i64 (-o.sl + ((j : Nat) : Int) : Int)) ?_
      refine pT (.pointer (some ⟨O14, 6, none⟩)) ?_
      refine pl_take (.int .i64 (o.sl : Int)) rfl (by kernel_rfl) (by kernel_rfl) (by kernel_rfl) (ex_load rfl (by kernel_rfl) (ld3 (bO14_t91.1))) ?_
      refine pl_take (.bool false) rfl (by kernel_rfl) (by kernel_rfl) (by kernel_rfl) (ev_ndec (show _ = Result.ok (Next.value (Value.bool (decide ((-o.sl + ((j : Nat) : Int) : Int) ≤ (o.sl : Int))))) _ from by kernel_rfl) (by omega)) ?_
      refine pl_nil ?_; refine qw_then ?_
      refine cw_f (by kernel_rfl) ?_
      refine cw_exit ?_
      refine qw_then_exit ?_
      refine qw_then_exit ?_
      refine qw_block_out ?_
      refine qw_then ?_; refine cw_seq ?_; refine cw_plain ?_
      refine pT (.bool true) ?_
      refine pT (.bool true) ?_
      refine pl_take (.agg #[.slice (some ⟨B9, 0, none⟩) 24 k8]) rfl (by kernel_rfl) (by kernel_rfl) (by kernel_rfl) (ex_load rfl (by kernel_rfl) (ld31 (z1.1))) ?_
      refine pT (.pointer (some ⟨O44, 1, none⟩)) ?_
      refine pl_take (.agg #[.slice (some ⟨g32, 0, none⟩) 24 k34]) rfl (by kernel_rfl) (by kernel_rfl) (by kernel_rfl) (ex_load rfl (by kernel_rfl) (ld31 (bO44_t97.1))) ?_
      refine pS (sn_call (f := 36) (args := #[.agg #[.slice (some ⟨B9, 0, none⟩) 24 k8], .agg #[.slice (some ⟨g32, 0, none⟩) 24 k34]]) (by kernel_rfl) ((Same_w (r := true) _ _ _ (RowsAt.va rb (Swath.foldU_valid (Swath.areaJ_valid hok _ _) _)) (RowsAt.va hrt95 (Swath.can_valid hok _ _)) (decide_eq_true (by rw [hjn]; rfl))).mono ?_))
      rintro e w313 ⟨rfl, hb⟩
      replace hE := hE.trans hb; replace hX105 := hX105.trans hb; have hs314 := hb.size; clear hb
      refine ⟨_, rfl, ?_⟩
      refine pT (.bool true) ?_
      refine pT (.bool true) ?_
      refine pl_take (.agg #[.slice (some ⟨C9, 0, none⟩) 24 k9]) rfl (by kernel_rfl) (by kernel_rfl) (by kernel_rfl) (ex_load rfl (by kernel_rfl) (ld31 ((BoxAt.ext hX105 z2).1))) ?_
      refine pT (.pointer (some ⟨O44, 0, none⟩)) ?_
      refine pl_take (.agg #[.slice (some ⟨B31, 0, none⟩) 24 k33]) rfl (by kernel_rfl) (by kernel_rfl) (by kernel_rfl) (ex_load rfl (by kernel_rfl) (ld31 ((BoxAt.ext hX105 bO44_t96).1))) ?_
      refine pS (sn_call (f := 36) (args := #[.agg #[.slice (some ⟨C9, 0, none⟩) 24 k9], .agg #[.slice (some ⟨B31, 0, none⟩) 24 k33]]) (by kernel_rfl) ((Same_w (r := true) _ _ _ (RowsAt.va (rc.ext hX105) (Swath.foldM_valid (Swath.areaJ_valid hok _ _) _)) (RowsAt.va (hrt94.ext hX105) (Swath.sure_valid hok _ _)) (decide_eq_true (by rw [hjn]; rfl))).mono ?_))
      rintro e w315 ⟨rfl, hb⟩
      replace hE := hE.trans hb; replace hX105 := hX105.trans hb; have hs316 := hb.size; clear hb
      refine ⟨_, rfl, ?_⟩
      refine pT (.bool true) ?_
      refine pT (.bool true) ?_
      refine pl_take (.agg #[.slice (some ⟨B9, 0, none⟩) 24 k8]) rfl (by kernel_rfl) (by kernel_rfl) (by kernel_rfl) (ex_load rfl (by kernel_rfl) (ld31 ((BoxAt.ext hX105 z1).1))) ?_
      refine pT (.pointer (some ⟨O44, 1, none⟩)) ?_
      refine pl_take (.agg #[.slice (some ⟨g32, 0, none⟩) 24 k34]) rfl (by kernel_rfl) (by kernel_rfl) (by kernel_rfl) (ex_load rfl (by kernel_rfl) (ld31 ((BoxAt.ext hX105 bO44_t97).1))) ?_
      refine pS (sn_call (f := 16) (args := #[.agg #[.slice (some ⟨B9, 0, none⟩) 24 k8], .agg #[.slice (some ⟨g32, 0, none⟩) 24 k34]]) (by kernel_rfl) ((rSame_v (r := true) _ _ _ (RowsAt.va (rb.ext hX105) (Swath.foldU_valid (Swath.areaJ_valid hok _ _) _)) (RowsAt.va (hrt95.ext hX105) (Swath.can_valid hok _ _)) (decide_eq_true (by rw [hjn]; rfl))).mono ?_))
      rintro e w317 ⟨rfl, hb⟩
      replace hE := hE.trans hb; replace hX105 := hX105.trans hb; have hs318 := hb.size; clear hb
      refine ⟨_, rfl, ?_⟩
      refine pT (.bool true) ?_
      refine pT (.bool true) ?_
      refine pl_nil ?_; refine qw_then ?_
      refine cw_clean [6] (ws' := [(6, .bool true)]) (by kernel_rfl) (fun L => ?_)
      refine cw_ret ?_
      refine qw_ret [.bool true] rfl ⟨(by kernel_rfl), trivial⟩ ?_
      exact ⟨rfl, hE⟩
theorem SwathSure_walk (v0 : Value) (op0 : Seven v0) (v1 : Value) (op1 : Pair v1) (lk : Int) (ilk : IsI lk) (w : World) : Calls Try.prog 8 #[v0, v1, .int .i64 lk] w fun e w' => e = .returned (.bool true) ∧ Ext w w' := by
  obtain ⟨x0, x1, x2, x3, x4, x5, x6, rfl, ix0, ix1, ix2, ix3, ix4, ix5, ix6⟩ := op0
  obtain ⟨y0, y1, rfl, iy0, iy1⟩ := op1
  exact SwathSure_w x0 x1 x2 x3 x4 x5 x6 y0 y1 lk  ix0 ix1 ix2 ix3 ix4 ix5 ix6 iy0 iy1 ilk w

end Go.Proofs.Ytdjjkhefdalokaa

/- The statement SwathSure: for every input the law returns true, and every argument reads as it read before; the two tables of package math/bits that the row lists are tied to the program's text. -/
namespace Go.Proofs.Ytdjjkhefdalokaa
open Go.ChangeShapes Go.WideShapes Go.ChangeAt Go.RowKit

set_option maxRecDepth 100000 in
theorem SwathSure_lifted (os : Os) (started : os.Started) (H : Type) (enc : TypeId × Value → H) :
    ReturnsInHanded {} Try.checked os 8 .any (Rows.swathSureSpec.pre6 enc Try.prog Try.f8 Rows.swathSureRow.domain false)
      (Rows.swathSureSpec.post enc Try.prog Try.f8 false true false false) := by
  refine returnsInHanded_of_change_sized (C := Try.checked) own started (by kernel_rfl) Try.func8
    (ChangeSpec.witness6 (enc := enc) (C := Try.checked) false ⟨#[], #[.agg #[.int .i64 0, .int .i64 0, .int .i64 0, .int .i64 0, .int .i64 0, .int .i64 0, .int .i64 0], .agg #[.int .i64 0, .int .i64 0], .int .i64 0], []⟩ 8 (by kernel_rfl) (by kernel_rfl) (by kernel_rfl) (by kernel_rfl)) ?_
  intro W base args ds gs before hval0 hW _ hsz _
  have hval : ∀ (j : Nat) t v, Try.f8.params[j]? = some t → args[j]? = some v → Value.okWide Try.prog W .any base t v := hval0
  have hW' := hW
  obtain ⟨p, q, hA0, hV, rfl, hfz, hnd⟩ := hW
  have hA : DataW.TrodAll enc Try.prog W 0 (fun _ => true) true Try.f8.params.toList args.toList ds p := hA0
  rw [Try.params8] at hA hval
  obtain ⟨v0, vs0, d0, ds0, p0, q0, hargs, rfl, rfl, h0, r0⟩ := trodAll_cons hA
  obtain ⟨v1, vs1, d1, ds1, p1, q1, rfl, rfl, rfl, h1, r1⟩ := trodAll_cons r0
  obtain ⟨v2, vs2, d2, ds2, p2, q2, rfl, rfl, rfl, h2, r2⟩ := trodAll_cons r1
  obtain ⟨rfl, rfl, rfl⟩ := trodAll_nil r2
  obtain rfl : args = #[v0, v1, v2] := by cases args; simp_all
  obtain ⟨rfl, rfl⟩ := trodVars_none hV
  have k0 := h0
  have lt0 : ∀ x ∈ p0, x.block < W.heap.size := by obtain ⟨m, hm⟩ := k0; exact DataW.trod_lt m _ _ _ hm
  have op0 := open_seven (hval 0 _ v0 rfl rfl) h0
  have k1 := h1
  have lt1 : ∀ x ∈ p1, x.block < W.heap.size := by obtain ⟨m, hm⟩ := k1; exact DataW.trod_lt m _ _ _ hm
  have op1 := open_pair (hval 1 _ v1 rfl rfl) h1
  obtain ⟨a2, rfl, rfl, rfl, w2⟩ := open_int Try.underlying3 (hval 2 3 v2 rfl rfl) h2
  clear hA0 hval0
  refine (SwathSure_walk v0 op0 v1 op1 a2 (isI_of_wf w2) W).mono fun e W' ⟨he, hE⟩ => ?_
  subst he
  have bel : Below W.heap.size W W' := hE
  exact ⟨_, rfl, _, _, _, [], _, [], hW', trodAll_mk1 (shut_bool Try.underlying4 _), (trodAll_cons_mk (Below.trod laidOut (by kernel_rfl) (of_decide_eq_true (by kernel_rfl)) k0 bel lt0) (trodAll_cons_mk (Below.trod laidOut (by kernel_rfl) (of_decide_eq_true (by kernel_rfl)) k1 bel lt1) (trodAll_cons_mk (shut_int Try.underlying3 w2) trodAll_mk0))), rfl, bel.frame _, fun h => by cases h⟩

theorem SwathSure_over : Rows.SwathSureSaid :=
  OpenClaim.holds_of_wide 8 Try.f8 rfl rfl rfl rfl rfl rfl rfl ⟨rfl, rfl, rfl, rfl, rfl⟩ rfl rfl rfl rfl rfl (by kernel_rfl) Try.func8 (by kernel_rfl)
    (of_decide_eq_true (by kernel_rfl)) (by unfold Func.isWrapper; first | (rw [if_pos (by decide +kernel)]; kernel_rfl) | (rw [if_neg (by decide +kernel)]; exact ⟨rfl, rfl⟩))
    (fun os started H enc _ => SwathSure_lifted os started H enc)

theorem SwathSure_holds : Rows.SwathSureSaid := SwathSure_over
#print axioms SwathSure_holds
end Go.Proofs.Ytdjjkhefdalokaa
