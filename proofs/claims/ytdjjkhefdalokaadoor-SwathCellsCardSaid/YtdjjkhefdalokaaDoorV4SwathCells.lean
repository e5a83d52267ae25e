/- Part 4 of what the proof of SwathCells stands on. -/
import Derived.Test.YtdjjkhefdalokaaDoorV3SwathCells
/- Contract of package swath: the fold of the strips of all delays. -/
namespace Go.Proofs.YtdjjkhefdalokaaDoor
open Go.RowKit

/-- The fold of the strips of the first i delays, in the box at O. -/
def FoldAt (O n₀ : Nat) (A : Nat → List Int) (i : Nat) (W : World) : Prop :=
  (i = 0 ∧ BoxAt W O 0 (.slice none 0 0) ∧ BoxAt W O 1 (.slice none 0 0)) ∨
  (0 < i ∧ ∃ A1 A2 c1 c2 : Nat, BoxAt W O 0 (.slice (some ⟨A1, 0, none⟩) 24 c1) ∧ BoxAt W O 1 (.slice (some ⟨A2, 0, none⟩) 24 c2) ∧ n₀ ≤ A1 ∧ n₀ ≤ A2 ∧ A1 ≠ A2 ∧ RowsAt W A1 (Swath.foldM A i) ∧ RowsAt W A2 (Swath.foldU A i))
theorem FoldAt.mv {O n₀ n₁ i : Nat} {A : Nat → List Int} {W V : World} (h : FoldAt O n₀ A i W) (m : Mv n₁ W V) : FoldAt O n₀ A i V := by
  rcases h with ⟨h0, b0, b1⟩ | ⟨h0, A1, A2, c1, c2, b0, b1, l1, l2, ne, r1, r2⟩
  · exact .inl ⟨h0, m.box b0, m.box b1⟩
  · exact .inr ⟨h0, A1, A2, c1, c2, m.box b0, m.box b1, l1, l2, ne, m.rows r1, m.rows r2⟩
theorem fold_first {O n₀ i B g c1 c2 : Nat} {A : Nat → List Int} {W : World} (h : i = 0) (b0 : BoxAt W O 0 (.slice (some ⟨B, 0, none⟩) 24 c1)) (b1 : BoxAt W O 1 (.slice (some ⟨g, 0, none⟩) 24 c2)) (l1 : n₀ ≤ B) (l2 : n₀ ≤ g) (ne : B ≠ g) (r1 : RowsAt W B (A i)) (r2 : RowsAt W g (A i)) : FoldAt O n₀ A (i + 1) W := by
  subst h
  exact .inr ⟨Nat.succ_pos _, B, g, c1, c2, b0, b1, l1, l2, ne, r1, r2⟩
theorem fold_next {O n₀ i A1 A2 c1 c2 : Nat} {A : Nat → List Int} {W : World} (h : 0 < i) (b0 : BoxAt W O 0 (.slice (some ⟨A1, 0, none⟩) 24 c1)) (b1 : BoxAt W O 1 (.slice (some ⟨A2, 0, none⟩) 24 c2)) (l1 : n₀ ≤ A1) (l2 : n₀ ≤ A2) (ne : A1 ≠ A2) (r1 : RowsAt W A1 (Globe.meetL (Swath.foldM A i) (A i))) (r2 : RowsAt W A2 (Globe.unionL (Swath.foldU A i) (A i))) : FoldAt O n₀ A (i + 1) W :=
  .inr ⟨Nat.succ_pos _, A1, A2, c1, c2, b0, b1, l1, l2, ne, by rw [Swath.foldM_succ h]; exact r1, by rw [Swath.foldU_succ h]; exact r2⟩
set_option maxRecDepth 1000000 in
set_option maxHeartbeats 4000000 in
theorem foldS_c {w0 : World} {Bo Bs Bl : Nat} {o : Orb} {s : Int × Int} {lk : Int} (w : World) (hS : StAt w0 Bo Bs Bl o s lk) (e0 : Ext w0 w) (hv : Swath.shB o s lk = true) :
    Calls Tryd.prog 29 #[.agg #[.int .i64 o.p, .int .i64 o.f, .int .i64 o.lo, .int .i64 o.hi, .int .i64 o.nd, .int .i64 o.tn, .int .i64 o.sl], .func (.func 27) #[] #[.pointer (some ⟨Bo, 0, none⟩), .pointer (some ⟨Bs, 0, none⟩), .pointer (some ⟨Bl, 0, none⟩)], .func (.func 30) #[] #[], .func (.func 28) #[] #[]] w (RetSt w (Swath.sureL o s lk) (Swath.canL o s lk)) := by
  obtain ⟨hok, ⟨sp0, sp1, sp2, sp3⟩, hl0, hl1⟩ := Swath.shB_t.1 hv
  have hq0 := Orb.ok_t.1 hok
  have hN : Swath.lates o = (2 * o.sl + 1).toNat := rfl
  refine icalls_cw 31 [(3, .func (.func 28) #[] #[]), (2, .func (.func 30) #[] #[]), (1, .func (.func 27) #[] #[.pointer (some ⟨Bo, 0, none⟩), .pointer (some ⟨Bs, 0, none⟩), .pointer (some ⟨Bl, 0, none⟩)]), (0, .agg #[.int .i64 (o.p : Int), .int .i64 (o.f : Int), .int .i64 (o.lo : Int), .int .i64 (o.hi : Int), .int .i64 (o.nd : Int), .int .i64 (o.tn : Int), .int .i64 (o.sl : Int)])] Tryd.func29 rfl Tryd.ntmps29 (by kernel_rfl) (by kernel_rfl) (fun L mm => ?_)
  have hE : Ext w w := Ext.refl w
  refine icw_seq ?_
  refine icw_plain ?_
  refine ipl_step rfl (by kernel_rfl) (by kernel_rfl) (by kernel_rfl) (sn_new (us := #[.int .i64 (o.p : Int), .int .i64 (o.f : Int), .int .i64 (o.lo : Int), .int .i64 (o.hi : Int), .int .i64 (o.nd : Int), .int .i64 (o.tn : Int), .int .i64 (o.sl : Int)]) (t := 26) (by kernel_rfl) ?_)
  intro O1 X2 hO hOs hb hbx
  have hzO1 := hO; have hyO1 := hOs; clear hO hOs
  have bO1_0 : BoxAt X2 O1 0 (.int .i64 (o.p : Int)) := hbx 0 _ rfl
  have bO1_1 : BoxAt X2 O1 1 (.int .i64 (o.f : Int)) := hbx 1 _ rfl
  have bO1_2 : BoxAt X2 O1 2 (.int .i64 (o.lo : Int)) := hbx 2 _ rfl
  have bO1_3 : BoxAt X2 O1 3 (.int .i64 (o.hi : Int)) := hbx 3 _ rfl
  have bO1_4 : BoxAt X2 O1 4 (.int .i64 (o.nd : Int)) := hbx 4 _ rfl
  have bO1_5 : BoxAt X2 O1 5 (.int .i64 (o.tn : Int)) := hbx 5 _ rfl
  have bO1_6 : BoxAt X2 O1 6 (.int .i64 (o.sl : Int)) := hbx 6 _ rfl
  clear hbx
  replace hE := hE.trans hb
  have hs3 := hb.size
  clear hb
  have lt4 := bO1_0.lt
  refine ipl_step rfl (by kernel_rfl) (by kernel_rfl) (by kernel_rfl) (sn_new (us := #[.func (.func 27) #[] #[.pointer (some ⟨Bo, 0, none⟩), .pointer (some ⟨Bs, 0, none⟩), .pointer (some ⟨Bl, 0, none⟩)]]) (t := 67) (by kernel_rfl) ?_)
  intro O5 X6 hO hOs hb hbx
  have hzO5 := hO; have hyO5 := hOs; clear hO hOs
  have bO5_0 : BoxAt X6 O5 0 (.func (.func 27) #[] #[.pointer (some ⟨Bo, 0, none⟩), .pointer (some ⟨Bs, 0, none⟩), .pointer (some ⟨Bl, 0, none⟩)]) := hbx 0 _ rfl
  clear hbx
  replace hE := hE.trans hb
  replace bO1_0 := BoxAt.ext hb bO1_0
  replace bO1_1 := BoxAt.ext hb bO1_1
  replace bO1_2 := BoxAt.ext hb bO1_2
  replace bO1_3 := BoxAt.ext hb bO1_3
  replace bO1_4 := BoxAt.ext hb bO1_4
  replace bO1_5 := BoxAt.ext hb bO1_5
  replace bO1_6 := BoxAt.ext hb bO1_6
  have hs7 := hb.size
  clear hb
  have lt8 := bO5_0.lt
  refine ipl_step rfl (by kernel_rfl) (by kernel_rfl) (by kernel_rfl) (sn_new (us := #[.func (.func 30) #[] #[]]) (t := 70) (by kernel_rfl) ?_)
  intro O9 X10 hO hOs hb hbx
  have hzO9 := hO; have hyO9 := hOs; clear hO hOs
  have bO9_0 : BoxAt X10 O9 0 (.func (.func 30) #[] #[]) := hbx 0 _ rfl
  clear hbx
  replace hE := hE.trans hb
  replace bO1_0 := BoxAt.ext hb bO1_0
  replace bO1_1 := BoxAt.ext hb bO1_1
  replace bO1_2 := BoxAt.ext hb bO1_2
  replace bO1_3 := BoxAt.ext hb bO1_3
  replace bO1_4 := BoxAt.ext hb bO1_4
  replace bO1_5 := BoxAt.ext hb bO1_5
  replace bO1_6 := BoxAt.ext hb bO1_6
  replace bO5_0 := BoxAt.ext hb bO5_0
  have hs11 := hb.size
  clear hb
  have lt12 := bO9_0.lt
  refine ipl_step rfl (by kernel_rfl) (by kernel_rfl) (by kernel_rfl) (sn_new (us := #[.func (.func 28) #[] #[]]) (t := 68) (by kernel_rfl) ?_)
  intro O13 X14 hO hOs hb hbx
  have hzO13 := hO; have hyO13 := hOs; clear hO hOs
  have bO13_0 : BoxAt X14 O13 0 (.func (.func 28) #[] #[]) := hbx 0 _ rfl
  clear hbx
  replace hE := hE.trans hb
  replace bO1_0 := BoxAt.ext hb bO1_0
  replace bO1_1 := BoxAt.ext hb bO1_1
  replace bO1_2 := BoxAt.ext hb bO1_2
  replace bO1_3 := BoxAt.ext hb bO1_3
  replace bO1_4 := BoxAt.ext hb bO1_4
  replace bO1_5 := BoxAt.ext hb bO1_5
  replace bO1_6 := BoxAt.ext hb bO1_6
  replace bO5_0 := BoxAt.ext hb bO5_0
  replace bO9_0 := BoxAt.ext hb bO9_0
  have hs15 := hb.size
  clear hb
  have lt16 := bO13_0.lt
  refine ipl_step rfl (by kernel_rfl) (by kernel_rfl) (by kernel_rfl) (sn_new (us := #[.slice none 0 0, .slice none 0 0]) (t := 43) (by kernel_rfl) ?_)
  intro O17 X18 hO hOs hb hbx
  have hzO17 := hO; have hyO17 := hOs; clear hO hOs
  have bO17_0 : BoxAt X18 O17 0 (.slice none 0 0) := hbx 0 _ rfl
  have bO17_1 : BoxAt X18 O17 1 (.slice none 0 0) := hbx 1 _ rfl
  clear hbx
  replace hE := hE.trans hb
  replace bO1_0 := BoxAt.ext hb bO1_0
  replace bO1_1 := BoxAt.ext hb bO1_1
  replace bO1_2 := BoxAt.ext hb bO1_2
  replace bO1_3 := BoxAt.ext hb bO1_3
  replace bO1_4 := BoxAt.ext hb bO1_4
  replace bO1_5 := BoxAt.ext hb bO1_5
  replace bO1_6 := BoxAt.ext hb bO1_6
  replace bO5_0 := BoxAt.ext hb bO5_0
  replace bO9_0 := BoxAt.ext hb bO9_0
  replace bO13_0 := BoxAt.ext hb bO13_0
  have hs19 := hb.size
  clear hb
  have lt20 := bO17_0.lt
  refine ipl_nil ?_
  refine iqw_then ?_
  refine icw_seq ?_
  refine icw_plain ?_
  refine ipl_step rfl (by kernel_rfl) (by kernel_rfl) (by kernel_rfl) (sn_new (us := #[.slice none 0 0, .slice none 0 0]) (t := 43) (by kernel_rfl) ?_)
  intro O21 X22 hO hOs hb hbx
  have hzO21 := hO; have hyO21 := hOs; clear hO hOs
  have bO21_0 : BoxAt X22 O21 0 (.slice none 0 0) := hbx 0 _ rfl
  have bO21_1 : BoxAt X22 O21 1 (.slice none 0 0) := hbx 1 _ rfl
  clear hbx
  replace hE := hE.trans hb
  replace bO1_0 := BoxAt.ext hb bO1_0
  replace bO1_1 := BoxAt.ext hb bO1_1
  replace bO1_2 := BoxAt.ext hb bO1_2
  replace bO1_3 := BoxAt.ext hb bO1_3
  replace bO1_4 := BoxAt.ext hb bO1_4
  replace bO1_5 := BoxAt.ext hb bO1_5
  replace bO1_6 := BoxAt.ext hb bO1_6
  replace bO5_0 := BoxAt.ext hb bO5_0
  replace bO9_0 := BoxAt.ext hb bO9_0
  replace bO13_0 := BoxAt.ext hb bO13_0
  replace bO17_0 := BoxAt.ext hb bO17_0
  replace bO17_1 := BoxAt.ext hb bO17_1
  have hs23 := hb.size
  clear hb
  have lt24 := bO21_0.lt
  refine ipl_nil ?_
  refine iqw_then ?_
  refine icw_seq ?_
  refine icw_seq ?_
  refine icw_plain ?_
  refine ipl_take (.agg #[.int .i64 (o.p : Int), .int .i64 (o.f : Int), .int .i64 (o.lo : Int), .int .i64 (o.hi : Int), .int .i64 (o.nd : Int), .int .i64 (o.tn : Int), .int .i64 (o.sl : Int)]) rfl (by kernel_rfl) (by kernel_rfl) (by kernel_rfl) (ex_load rfl (by kernel_rfl) (ld26 (bO1_0.1) (bO1_1.1) (bO1_2.1) (bO1_3.1) (bO1_4.1) (bO1_5.1) (bO1_6.1))) ?_
  refine ipl_step rfl (by kernel_rfl) (by kernel_rfl) (by kernel_rfl) (sn_call (f := 49) (args := #[.agg #[.int .i64 (o.p : Int), .int .i64 (o.f : Int), .int .i64 (o.lo : Int), .int .i64 (o.hi : Int), .int .i64 (o.nd : Int), .int .i64 (o.tn : Int), .int .i64 (o.sl : Int)]]) (by kernel_rfl) ((delays_c o _).mono ?_))
  rintro e w28 ⟨B25, rfl, hn26, hc27, hb⟩
  replace hE := hE.trans hb
  replace bO1_0 := BoxAt.ext hb bO1_0
  replace bO1_1 := BoxAt.ext hb bO1_1
  replace bO1_2 := BoxAt.ext hb bO1_2
  replace bO1_3 := BoxAt.ext hb bO1_3
  replace bO1_4 := BoxAt.ext hb bO1_4
  replace bO1_5 := BoxAt.ext hb bO1_5
  replace bO1_6 := BoxAt.ext hb bO1_6
  replace bO5_0 := BoxAt.ext hb bO5_0
  replace bO9_0 := BoxAt.ext hb bO9_0
  replace bO13_0 := BoxAt.ext hb bO13_0
  replace bO17_0 := BoxAt.ext hb bO17_0
  replace bO17_1 := BoxAt.ext hb bO17_1
  replace bO21_0 := BoxAt.ext hb bO21_0
  replace bO21_1 := BoxAt.ext hb bO21_1
  have hs29 := hb.size
  clear hb
  have lt30 := World.block_lt_of_cell? _ _ hc27
  refine ⟨_, rfl, ?_⟩
  refine ipl_nil ?_
  refine iqw_then ?_
  refine icw_block ?_
  refine icw_range (ps := [14]) (by kernel_rfl) (enters_of Tryd.func68 (by kernel_rfl) rfl) (delays_seq (X := fun k => k = O21 ∨ w28.heap.size ≤ k) hok (fun h => h.elim (Nat.ne_of_gt (Nat.lt_of_lt_of_le lt24 hn26)) (fun q => absurd (Nat.lt_of_lt_of_le lt30 (Nat.le_refl _)) (Nat.not_lt_of_le q))) hc27) (Ext.refl _) (fun _ => rfl) (by kernel_rfl) (fun i W => w28.heap.size ≤ W.heap.size ∧ Ext w W ∧ BoxAt W O1 0 (.int .i64 (o.p : Int)) ∧ BoxAt W O1 1 (.int .i64 (o.f : Int)) ∧ BoxAt W O1 2 (.int .i64 (o.lo : Int)) ∧ BoxAt W O1 3 (.int .i64 (o.hi : Int)) ∧ BoxAt W O1 4 (.int .i64 (o.nd : Int)) ∧ BoxAt W O1 5 (.int .i64 (o.tn : Int)) ∧ BoxAt W O1 6 (.int .i64 (o.sl : Int)) ∧ BoxAt W O5 0 (.func (.func 27) #[] #[.pointer (some ⟨Bo, 0, none⟩), .pointer (some ⟨Bs, 0, none⟩), .pointer (some ⟨Bl, 0, none⟩)]) ∧ BoxAt W O9 0 (.func (.func 30) #[] #[]) ∧ BoxAt W O13 0 (.func (.func 28) #[] #[]) ∧ BoxAt W O17 0 (.slice none 0 0) ∧ BoxAt W O17 1 (.slice none 0 0) ∧ W.cell? ⟨B25, 6, none⟩ = some (.int .i64 (o.sl : Int)) ∧ FoldAt O21 w28.heap.size (Swath.areaJ o s lk) i W) (fun _ _ _ => False) (fun i A B h hm => by obtain ⟨hsz, hE, bO1_0, bO1_1, bO1_2, bO1_3, bO1_4, bO1_5, bO1_6, bO5_0, bO9_0, bO13_0, bO17_0, bO17_1, hc27, hF⟩ := h; exact ⟨Nat.le_trans hsz hm.size, hm.ext hE (Nat.le_trans hs3 (Nat.le_trans hs7 (Nat.le_trans hs11 (Nat.le_trans hs15 (Nat.le_trans hs19 (Nat.le_trans hs23 hs29)))))), hm.box bO1_0, hm.box bO1_1, hm.box bO1_2, hm.box bO1_3, hm.box bO1_4, hm.box bO1_5, hm.box bO1_6, hm.box bO5_0, hm.box bO9_0, hm.box bO13_0, hm.box bO17_0, hm.box bO17_1, hm.cell hc27, (hF).mv hm⟩) (fun _ _ _ _ h _ => h.elim) ⟨Nat.le_refl _, hE, bO1_0, bO1_1, bO1_2, bO1_3, bO1_4, bO1_5, bO1_6, bO5_0, bO9_0, bO13_0, bO17_0, bO17_1, hc27, (.inl ⟨rfl, bO21_0, bO21_1⟩)⟩ ?_ ?_ ?_
  ·
    clear bO1_0 bO1_1 bO1_2 bO1_3 bO1_4 bO1_5 bO1_6 bO5_0 bO9_0 bO13_0 bO17_0 bO17_1 bO21_0 bO21_1 hc27 hE
    intro l33 k34 i w31 hii h _
    obtain ⟨hs32, hE, bO1_0, bO1_1, bO1_2, bO1_3, bO1_4, bO1_5, bO1_6, bO5_0, bO9_0, bO13_0, bO17_0, bO17_1, hc27, hF⟩ := h
    refine icw_clean [4, 5, 6, 7, 9, 14] (ws' := [(4, .pointer (some ⟨O1, 0, none⟩)), (5, .pointer (some ⟨O5, 0, none⟩)), (6, .pointer (some ⟨O9, 0, none⟩)), (7, .pointer (some ⟨O13, 0, none⟩)), (9, .pointer (some ⟨O21, 0, none⟩)), (14, .int .i64 (-o.sl + ((i : Nat) : Int) : Int))]) (by kernel_rfl) (fun L => ?_)
    have hrk35 : RK w28.heap.size (fun k => k = O21 ∨ w28.heap.size ≤ k) w31 w31 := RK.refl _ _ _
    refine icw_plain ?_
    refine ipl_take (.int .i64 (-o.sl + ((i : Nat) : Int) : Int)) rfl (by kernel_rfl) (by kernel_rfl) (by kernel_rfl) (by kernel_rfl) ?_
    refine ipl_nil ?_
    refine iqw_asg hrk35 (fun w37 hm36 => ?_)
    replace hE := hm36.ext hE (Nat.le_trans hs3 (Nat.le_trans hs7 (Nat.le_trans hs11 (Nat.le_trans hs15 (Nat.le_trans hs19 (Nat.le_trans hs23 hs29))))))
    replace bO1_0 := hm36.box bO1_0
    replace bO1_1 := hm36.box bO1_1
    replace bO1_2 := hm36.box bO1_2
    replace bO1_3 := hm36.box bO1_3
    replace bO1_4 := hm36.box bO1_4
    replace bO1_5 := hm36.box bO1_5
    replace bO1_6 := hm36.box bO1_6
    replace bO5_0 := hm36.box bO5_0
    replace bO9_0 := hm36.box bO9_0
    replace bO13_0 := hm36.box bO13_0
    replace bO17_0 := hm36.box bO17_0
    replace bO17_1 := hm36.box bO17_1
    replace hc27 := hm36.cell hc27
    replace hF := (hF).mv hm36
    have hs38 := hm36.size
    have hrk39 : RK w28.heap.size (fun k => k = O21 ∨ w28.heap.size ≤ k) w37 w37 := RK.refl _ _ _
    refine icw_block ?_
    refine icw_seq ?_
    have hd9 : Globe.inB (-o.sl + ((i : Nat) : Int)) (-o.sl) o.sl = true := Globe.inB_t.2 ⟨by omega, by omega⟩
    rcases hF with ⟨hi0, z0, z1⟩ | ⟨hi0, A1, A2, c1, c2, z0, z1, la1, la2, na, ra1, ra2⟩
    ·
      refine icw_plain ?_
      refine ipl_take (.func (.func 27) #[] #[.pointer (some ⟨Bo, 0, none⟩), .pointer (some ⟨Bs, 0, none⟩), .pointer (some ⟨Bl, 0, none⟩)]) rfl (by kernel_rfl) (by kernel_rfl) (by kernel_rfl) (ex_load rfl (by kernel_rfl) (ld67 (bO5_0.1))) ?_
      refine ipl_take (.int .i64 (-o.sl + ((i : Nat) : Int) : Int)) rfl (by kernel_rfl) (by kernel_rfl) (by kernel_rfl) (by kernel_rfl) ?_
      refine ipl_step rfl (by kernel_rfl) (by kernel_rfl) (by kernel_rfl) (sn_call (f := 27) (args := #[.int .i64 (-o.sl + ((i : Nat) : Int) : Int), .pointer (some ⟨Bo, 0, none⟩), .pointer (some ⟨Bs, 0, none⟩), .pointer (some ⟨Bl, 0, none⟩)]) (by kernel_rfl) ((value_c (-o.sl + ((i : Nat) : Int)) _ hS (e0.trans hE) hv hd9).mono ?_))
      rintro e w49 ⟨B40, g41, k42, k43, rfl, hn44, hn45, hne46, hr47, hr48, hb⟩
      replace hE := hE.trans hb
      replace bO1_0 := BoxAt.ext hb bO1_0
      replace bO1_1 := BoxAt.ext hb bO1_1
      replace bO1_2 := BoxAt.ext hb bO1_2
      replace bO1_3 := BoxAt.ext hb bO1_3
      replace bO1_4 := BoxAt.ext hb bO1_4
      replace bO1_5 := BoxAt.ext hb bO1_5
      replace bO1_6 := BoxAt.ext hb bO1_6
      replace bO5_0 := BoxAt.ext hb bO5_0
      replace bO9_0 := BoxAt.ext hb bO9_0
      replace bO13_0 := BoxAt.ext hb bO13_0
      replace bO17_0 := BoxAt.ext hb bO17_0
      replace bO17_1 := BoxAt.ext hb bO17_1
      replace hc27 := hb.cell hc27
      replace hrk39 := hrk39.ext hb
      replace z0 := BoxAt.ext hb z0
      replace z1 := BoxAt.ext hb z1
      have hs50 := hb.size
      clear hb
      have lt51 := hr47.lt
      have lt52 := hr48.lt
      have hne46h := Lib.hid hne46
      refine ⟨_, rfl, ?_⟩
      refine ipl_step rfl (by kernel_rfl) (by kernel_rfl) (by kernel_rfl) (sn_new (us := #[.slice none 0 0, .slice none 0 0]) (t := 43) (by kernel_rfl) ?_)
      intro O53 X54 hO hOs hb hbx
      have hzO53 := hO; have hyO53 := hOs; clear hO hOs
      have bO53_0 : BoxAt X54 O53 0 (.slice none 0 0) := hbx 0 _ rfl
      have bO53_1 : BoxAt X54 O53 1 (.slice none 0 0) := hbx 1 _ rfl
      clear hbx
      replace hE := hE.trans hb
      replace bO1_0 := BoxAt.ext hb bO1_0
      replace bO1_1 := BoxAt.ext hb bO1_1
      replace bO1_2 := BoxAt.ext hb bO1_2
      replace bO1_3 := BoxAt.ext hb bO1_3
      replace bO1_4 := BoxAt.ext hb bO1_4
      replace bO1_5 := BoxAt.ext hb bO1_5
      replace bO1_6 := BoxAt.ext hb bO1_6
      replace bO5_0 := BoxAt.ext hb bO5_0
      replace bO9_0 := BoxAt.ext hb bO9_0
      replace bO13_0 := BoxAt.ext hb bO13_0
      replace bO17_0 := BoxAt.ext hb bO17_0
      replace bO17_1 := BoxAt.ext hb bO17_1
      replace hc27 := hb.cell hc27
      replace hrk39 := hrk39.ext hb
      replace z0 := BoxAt.ext hb z0
      replace z1 := BoxAt.ext hb z1
      replace hr47 := hr47.ext hb
      replace hr48 := hr48.ext hb
      have hs55 := hb.size
      clear hb
      have lt56 := bO53_0.lt
      refine ipl_put rfl (by kernel_rfl) (by kernel_rfl) (sn_set2 (O := O53) (j := 0) (v := .slice (some ⟨B40, 0, none⟩) 24 k42) (v' := .slice (some ⟨g41, 0, none⟩) 24 k43) (ex_store (p := .pointer (some ⟨O53, 0, none⟩)) (v := .agg #[.slice (some ⟨B40, 0, none⟩) 24 k42, .slice (some ⟨g41, 0, none⟩) 24 k43]) rfl (by kernel_rfl) (by kernel_rfl) (st43 bO53_0.1 bO53_0.2 bO53_1.1 bO53_1.2)) bO53_0 bO53_1 ?_)
      intro X57 ho hv0 hv1 hk
      replace hE := ho.ext hE (Nat.le_trans (Nat.le_trans hs3 (Nat.le_trans hs7 (Nat.le_trans hs11 (Nat.le_trans hs15 (Nat.le_trans hs19 (Nat.le_trans hs23 (Nat.le_trans hs29 (Nat.le_trans hs32 (Nat.le_trans hs38 hs50))))))))) (Nat.le_of_eq hzO53))
      replace bO1_0 := ho.box (Nat.ne_of_gt (Nat.lt_of_lt_of_le lt4 (Nat.le_trans (Nat.le_trans hs7 (Nat.le_trans hs11 (Nat.le_trans hs15 (Nat.le_trans hs19 (Nat.le_trans hs23 (Nat.le_trans hs29 (Nat.le_trans hs32 (Nat.le_trans hs38 hs50)))))))) (Nat.le_of_eq hzO53)))) bO1_0
      replace bO1_1 := ho.box (Nat.ne_of_gt (Nat.lt_of_lt_of_le lt4 (Nat.le_trans (Nat.le_trans hs7 (Nat.le_trans hs11 (Nat.le_trans hs15 (Nat.le_trans hs19 (Nat.le_trans hs23 (Nat.le_trans hs29 (Nat.le_trans hs32 (Nat.le_trans hs38 hs50)))))))) (Nat.le_of_eq hzO53)))) bO1_1
      replace bO1_2 := ho.box (Nat.ne_of_gt (Nat.lt_of_lt_of_le lt4 (Nat.le_trans (Nat.le_trans hs7 (Nat.le_trans hs11 (Nat.le_trans hs15 (Nat.le_trans hs19 (Nat.le_trans hs23 (Nat.le_trans hs29 (Nat.le_trans hs32 (Nat.le_trans hs38 hs50)))))))) (Nat.le_of_eq hzO53)))) bO1_2
      replace bO1_3 := ho.box (Nat.ne_of_gt (Nat.lt_of_lt_of_le lt4 (Nat.le_trans (Nat.le_trans hs7 (Nat.le_trans hs11 (Nat.le_trans hs15 (Nat.le_trans hs19 (Nat.le_trans hs23 (Nat.le_trans hs29 (Nat.le_trans hs32 (Nat.le_trans hs38 hs50)))))))) (Nat.le_of_eq hzO53)))) bO1_3
      replace bO1_4 := ho.box (Nat.ne_of_gt (Nat.lt_of_lt_of_le lt4 (Nat.le_trans (Nat.le_trans hs7 (Nat.le_trans hs11 (Nat.le_trans hs15 (Nat.le_trans hs19 (Nat.le_trans hs23 (Nat.le_trans hs29 (Nat.le_trans hs32 (Nat.le_trans hs38 hs50)))))))) (Nat.le_of_eq hzO53)))) bO1_4
      replace bO1_5 := ho.box (Nat.ne_of_gt (Nat.lt_of_lt_of_le lt4 (Nat.le_trans (Nat.le_trans hs7 (Nat.le_trans hs11 (Nat.le_trans hs15 (Nat.le_trans hs19 (Nat.le_trans hs23 (Nat.le_trans hs29 (Nat.le_trans hs32 (Nat.le_trans hs38 hs50)))))))) (Nat.le_of_eq hzO53)))) bO1_5
      replace bO1_6 := ho.box (Nat.ne_of_gt (Nat.lt_of_lt_of_le lt4 (Nat.le_trans (Nat.le_trans hs7 (Nat.le_trans hs11 (Nat.le_trans hs15 (Nat.le_trans hs19 (Nat.le_trans hs23 (Nat.le_trans hs29 (Nat.le_trans hs32 (Nat.le_trans hs38 hs50)))))))) (Nat.le_of_eq hzO53)))) bO1_6
      replace bO5_0 := ho.box (Nat.ne_of_gt (Nat.lt_of_lt_of_le lt8 (Nat.le_trans (Nat.le_trans hs11 (Nat.le_trans hs15 (Nat.le_trans hs19 (Nat.le_trans hs23 (Nat.le_trans hs29 (Nat.le_trans hs32 (Nat.le_trans hs38 hs50))))))) (Nat.le_of_eq hzO53)))) bO5_0
      replace bO9_0 := ho.box (Nat.ne_of_gt (Nat.lt_of_lt_of_le lt12 (Nat.le_trans (Nat.le_trans hs15 (Nat.le_trans hs19 (Nat.le_trans hs23 (Nat.le_trans hs29 (Nat.le_trans hs32 (Nat.le_trans hs38 hs50)))))) (Nat.le_of_eq hzO53)))) bO9_0
      replace bO13_0 := ho.box (Nat.ne_of_gt (Nat.lt_of_lt_of_le lt16 (Nat.le_trans (Nat.le_trans hs19 (Nat.le_trans hs23 (Nat.le_trans hs29 (Nat.le_trans hs32 (Nat.le_trans hs38 hs50))))) (Nat.le_of_eq hzO53)))) bO13_0
      replace bO17_0 := ho.box (Nat.ne_of_gt (Nat.lt_of_lt_of_le lt20 (Nat.le_trans (Nat.le_trans hs23 (Nat.le_trans hs29 (Nat.le_trans hs32 (Nat.le_trans hs38 hs50)))) (Nat.le_of_eq hzO53)))) bO17_0
      replace bO17_1 := ho.box (Nat.ne_of_gt (Nat.lt_of_lt_of_le lt20 (Nat.le_trans (Nat.le_trans hs23 (Nat.le_trans hs29 (Nat.le_trans hs32 (Nat.le_trans hs38 hs50)))) (Nat.le_of_eq hzO53)))) bO17_1
      replace hc27 := ho.cell (Nat.ne_of_gt (Nat.lt_of_lt_of_le lt30 (Nat.le_trans (Nat.le_trans hs32 (Nat.le_trans hs38 hs50)) (Nat.le_of_eq hzO53)))) hc27
      replace hrk39 := hrk39.turn ho (.inr (Nat.le_trans hs50 (Nat.le_of_eq hzO53)))
      replace z0 := ho.box (Nat.ne_of_gt (Nat.lt_of_lt_of_le lt24 (Nat.le_trans (Nat.le_trans hs29 (Nat.le_trans hs32 (Nat.le_trans hs38 hs50))) (Nat.le_of_eq hzO53)))) z0
      replace z1 := ho.box (Nat.ne_of_gt (Nat.lt_of_lt_of_le lt24 (Nat.le_trans (Nat.le_trans hs29 (Nat.le_trans hs32 (Nat.le_trans hs38 hs50))) (Nat.le_of_eq hzO53)))) z1
      replace hr47 := ho.rows (Nat.ne_of_gt (Nat.lt_of_lt_of_le lt51 (Nat.le_of_eq hzO53))) hr47
      replace hr48 := ho.rows (Nat.ne_of_gt (Nat.lt_of_lt_of_le lt52 (Nat.le_of_eq hzO53))) hr48
      have hs58 : X54.heap.size ≤ X57.heap.size := Nat.le_of_eq ho.size.symm
      clear ho hk bO53_0 bO53_1
      have bO53_0 := hv0; clear hv0
      have bO53_1 := hv1; clear hv1
      refine ipl_nil ?_
      refine iqw_then ?_
      refine icw_seq ?_
      refine icw_plain ?_
      refine ipl_take (.int .i64 (-o.sl + ((i : Nat) : Int) : Int)) rfl (by kernel_rfl) (by kernel_rfl) (by kernel_rfl) (by kernel_rfl) ?_
      refine ipl_take (.pointer (some ⟨O1, 6, none⟩)) rfl (by kernel_rfl) (by kernel_rfl) (by kernel_rfl) (by kernel_rfl) ?_
      refine ipl_take (.int .i64 (o.sl : Int)) rfl (by kernel_rfl) (by kernel_rfl) (by kernel_rfl) (ex_load rfl (by kernel_rfl) (ld3 (bO1_6.1))) ?_
      refine ipl_take (.int .i64 (-o.sl : Int)) rfl (by kernel_rfl) (by kernel_rfl) (by kernel_rfl) (ev_int (ev_wrap (a := 0 - o.sl) (by kernel_rfl) (by omega) (by omega)) (by omega)) ?_
      refine ipl_take (.bool true) rfl (by kernel_rfl) (by kernel_rfl) (by kernel_rfl) (ev_eq (show _ = Result.ok (Next.value (Value.bool ((-o.sl + ((i : Nat) : Int) : Int) == (-o.sl : Int)))) _ from by kernel_rfl) (by omega)) ?_
      refine ipl_nil ?_
      refine iqw_then ?_
      refine icw_clean [6, 7, 9, 11, 22] (ws' := [(6, .pointer (some ⟨O9, 0, none⟩)), (7, .pointer (some ⟨O13, 0, none⟩)), (9, .pointer (some ⟨O21, 0, none⟩)), (11, .pointer (some ⟨O53, 0, none⟩)), (22, .bool true)]) (by kernel_rfl) (fun L => ?_)
      refine icw_t (by kernel_rfl) ?_
      refine icw_plain ?_
      refine ipl_take (.func (.func 30) #[] #[]) rfl (by kernel_rfl) (by kernel_rfl) (by kernel_rfl) (ex_load rfl (by kernel_rfl) (ld70 (bO9_0.1))) ?_
      refine ipl_take (.agg #[.slice (some ⟨B40, 0, none⟩) 24 k42, .slice (some ⟨g41, 0, none⟩) 24 k43]) rfl (by kernel_rfl) (by kernel_rfl) (by kernel_rfl) (ex_load rfl (by kernel_rfl) (ld43 (bO53_0.1) (bO53_1.1))) ?_
      refine ipl_step rfl (by kernel_rfl) (by kernel_rfl) (by kernel_rfl) (sn_call (f := 30) (args := #[.agg #[.slice (some ⟨B40, 0, none⟩) 24 k42, .slice (some ⟨g41, 0, none⟩) 24 k43]]) (by kernel_rfl) ((first_c _).mono ?_))
      rintro e w59 ⟨rfl, hb⟩
      replace hE := hE.trans hb
      replace bO1_0 := BoxAt.ext hb bO1_0
      replace bO1_1 := BoxAt.ext hb bO1_1
      replace bO1_2 := BoxAt.ext hb bO1_2
      replace bO1_3 := BoxAt.ext hb bO1_3
      replace bO1_4 := BoxAt.ext hb bO1_4
      replace bO1_5 := BoxAt.ext hb bO1_5
      replace bO1_6 := BoxAt.ext hb bO1_6
      replace bO5_0 := BoxAt.ext hb bO5_0
      replace bO9_0 := BoxAt.ext hb bO9_0
      replace bO13_0 := BoxAt.ext hb bO13_0
      replace bO17_0 := BoxAt.ext hb bO17_0
      replace bO17_1 := BoxAt.ext hb bO17_1
      replace hc27 := hb.cell hc27
      replace hrk39 := hrk39.ext hb
      replace z0 := BoxAt.ext hb z0
      replace z1 := BoxAt.ext hb z1
      replace hr47 := hr47.ext hb
      replace hr48 := hr48.ext hb
      replace bO53_0 := BoxAt.ext hb bO53_0
      replace bO53_1 := BoxAt.ext hb bO53_1
      have hs60 := hb.size
      clear hb
      refine ⟨_, rfl, ?_⟩
      refine ipl_put rfl (by kernel_rfl) (by kernel_rfl) (sn_set2 (O := O21) (j := 0) (v := .slice (some ⟨B40, 0, none⟩) 24 k42) (v' := .slice (some ⟨g41, 0, none⟩) 24 k43) (ex_store (p := .pointer (some ⟨O21, 0, none⟩)) (v := .agg #[.slice (some ⟨B40, 0, none⟩) 24 k42, .slice (some ⟨g41, 0, none⟩) 24 k43]) rfl (by kernel_rfl) (by kernel_rfl) (st43 z0.1 z0.2 z1.1 z1.2)) z0 z1 ?_)
      intro X61 ho hv0 hv1 hk
      replace hE := ho.ext hE (Nat.le_trans (Nat.le_trans hs3 (Nat.le_trans hs7 (Nat.le_trans hs11 (Nat.le_trans hs15 hs19)))) (Nat.le_of_eq hzO21))
      replace bO1_0 := ho.box (Nat.ne_of_gt (Nat.lt_of_lt_of_le lt4 (Nat.le_trans (Nat.le_trans hs7 (Nat.le_trans hs11 (Nat.le_trans hs15 hs19))) (Nat.le_of_eq hzO21)))) bO1_0
      replace bO1_1 := ho.box (Nat.ne_of_gt (Nat.lt_of_lt_of_le lt4 (Nat.le_trans (Nat.le_trans hs7 (Nat.le_trans hs11 (Nat.le_trans hs15 hs19))) (Nat.le_of_eq hzO21)))) bO1_1
      replace bO1_2 := ho.box (Nat.ne_of_gt (Nat.lt_of_lt_of_le lt4 (Nat.le_trans (Nat.le_trans hs7 (Nat.le_trans hs11 (Nat.le_trans hs15 hs19))) (Nat.le_of_eq hzO21)))) bO1_2
      replace bO1_3 := ho.box (Nat.ne_of_gt (Nat.lt_of_lt_of_le lt4 (Nat.le_trans (Nat.le_trans hs7 (Nat.le_trans hs11 (Nat.le_trans hs15 hs19))) (Nat.le_of_eq hzO21)))) bO1_3
      replace bO1_4 := ho.box (Nat.ne_of_gt (Nat.lt_of_lt_of_le lt4 (Nat.le_trans (Nat.le_trans hs7 (Nat.le_trans hs11 (Nat.le_trans hs15 hs19))) (Nat.le_of_eq hzO21)))) bO1_4
      replace bO1_5 := ho.box (Nat.ne_of_gt (Nat.lt_of_lt_of_le lt4 (Nat.le_trans (Nat.le_trans hs7 (Nat.le_trans hs11 (Nat.le_trans hs15 hs19))) (Nat.le_of_eq hzO21)))) bO1_5
      replace bO1_6 := ho.box (Nat.ne_of_gt (Nat.lt_of_lt_of_le lt4 (Nat.le_trans (Nat.le_trans hs7 (Nat.le_trans hs11 (Nat.le_trans hs15 hs19))) (Nat.le_of_eq hzO21)))) bO1_6
      replace bO5_0 := ho.box (Nat.ne_of_gt (Nat.lt_of_lt_of_le lt8 (Nat.le_trans (Nat.le_trans hs11 (Nat.le_trans hs15 hs19)) (Nat.le_of_eq hzO21)))) bO5_0
      replace bO9_0 := ho.box (Nat.ne_of_gt (Nat.lt_of_lt_of_le lt12 (Nat.le_trans (Nat.le_trans hs15 hs19) (Nat.le_of_eq hzO21)))) bO9_0
      replace bO13_0 := ho.box (Nat.ne_of_gt (Nat.lt_of_lt_of_le lt16 (Nat.le_trans hs19 (Nat.le_of_eq hzO21)))) bO13_0
      replace bO17_0 := ho.box (Nat.ne_of_gt (Nat.lt_of_lt_of_le lt20 (Nat.le_of_eq hzO21))) bO17_0
      replace bO17_1 := ho.box (Nat.ne_of_gt (Nat.lt_of_lt_of_le lt20 (Nat.le_of_eq hzO21))) bO17_1
      replace hc27 := ho.cell (Nat.ne_of_lt (Nat.lt_of_lt_of_le lt24 hn26)) hc27
      replace hrk39 := hrk39.turn ho (.inl (.inl rfl))
      replace hr47 := ho.rows (Nat.ne_of_lt (Nat.lt_of_lt_of_le lt24 (Nat.le_trans (Nat.le_trans hs29 (Nat.le_trans hs32 hs38)) hn44))) hr47
      replace hr48 := ho.rows (Nat.ne_of_lt (Nat.lt_of_lt_of_le lt24 (Nat.le_trans (Nat.le_trans hs29 (Nat.le_trans hs32 hs38)) hn45))) hr48
      replace bO53_0 := ho.box (Nat.ne_of_lt (Nat.lt_of_lt_of_le lt24 (Nat.le_trans (Nat.le_trans hs29 (Nat.le_trans hs32 (Nat.le_trans hs38 hs50))) (Nat.le_of_eq hzO53)))) bO53_0
      replace bO53_1 := ho.box (Nat.ne_of_lt (Nat.lt_of_lt_of_le lt24 (Nat.le_trans (Nat.le_trans hs29 (Nat.le_trans hs32 (Nat.le_trans hs38 hs50))) (Nat.le_of_eq hzO53)))) bO53_1
      have hs62 : w59.heap.size ≤ X61.heap.size := Nat.le_of_eq ho.size.symm
      clear ho hk z0 z1
      have z0 := hv0; clear hv0
      have z1 := hv1; clear hv1
      refine ipl_nil ?_
      refine iqw_block ?_
      exact iqw_next hrk39 ⟨(Nat.le_trans hs32 (Nat.le_trans hs38 (Nat.le_trans hs50 (Nat.le_trans hs55 (Nat.le_trans hs58 (Nat.le_trans hs60 hs62)))))), hE, bO1_0, bO1_1, bO1_2, bO1_3, bO1_4, bO1_5, bO1_6, bO5_0, bO9_0, bO13_0, bO17_0, bO17_1, hc27, (fold_first hi0 z0 z1 (Nat.le_trans (Nat.le_trans hs32 hs38) hn44) (Nat.le_trans (Nat.le_trans hs32 hs38) hn45) hne46h.out hr47 hr48)⟩
    ·
      have na9 := Lib.hid na
      have lt63 := ra1.lt
      have lt64 := ra2.lt
      refine icw_plain ?_
      refine ipl_take (.func (.func 27) #[] #[.pointer (some ⟨Bo, 0, none⟩), .pointer (some ⟨Bs, 0, none⟩), .pointer (some ⟨Bl, 0, none⟩)]) rfl (by kernel_rfl) (by kernel_rfl) (by kernel_rfl) (ex_load rfl (by kernel_rfl) (ld67 (bO5_0.1))) ?_
      refine ipl_take (.int .i64 (-o.sl + ((i : Nat) : Int) : Int)) rfl (by kernel_rfl) (by kernel_rfl) (by kernel_rfl) (by kernel_rfl) ?_
      refine ipl_step rfl (by kernel_rfl) (by kernel_rfl) (by kernel_rfl) (sn_call (f := 27) (args := #[.int .i64 (-o.sl + ((i : Nat) : Int) : Int), .pointer (some ⟨Bo, 0, none⟩), .pointer (some ⟨Bs, 0, none⟩), .pointer (some ⟨Bl, 0, none⟩)]) (by kernel_rfl) ((value_c (-o.sl + ((i : Nat) : Int)) _ hS (e0.trans hE) hv hd9).mono ?_))
      rintro e w74 ⟨B65, g66, k67, k68, rfl, hn69, hn70, hne71, hr72, hr73, hb⟩
      replace hE := hE.trans hb
      replace bO1_0 := BoxAt.ext hb bO1_0
      replace bO1_1 := BoxAt.ext hb bO1_1
      replace bO1_2 := BoxAt.ext hb bO1_2
      replace bO1_3 := BoxAt.ext hb bO1_3
      replace bO1_4 := BoxAt.ext hb bO1_4
      replace bO1_5 := BoxAt.ext hb bO1_5
      replace bO1_6 := BoxAt.ext hb bO1_6
      replace bO5_0 := BoxAt.ext hb bO5_0
      replace bO9_0 := BoxAt.ext hb bO9_0
      replace bO13_0 := BoxAt.ext hb bO13_0
      replace bO17_0 := BoxAt.ext hb bO17_0
      replace bO17_1 := BoxAt.ext hb bO17_1
      replace hc27 := hb.cell hc27
      replace hrk39 := hrk39.ext hb
      replace z0 := BoxAt.ext hb z0
      replace z1 := BoxAt.ext hb z1
      replace ra1 := ra1.ext hb
      replace ra2 := ra2.ext hb
      have hs75 := hb.size
      clear hb
      have lt76 := hr72.lt
      have lt77 := hr73.lt
      have hne71h := Lib.hid hne71
      refine ⟨_, rfl, ?_⟩
      refine ipl_step rfl (by kernel_rfl) (by kernel_rfl) (by kernel_rfl) (sn_new (us := #[.slice none 0 0, .slice none 0 0]) (t := 43) (by kernel_rfl) ?_)
      intro O78 X79 hO hOs hb hbx
      have hzO78 := hO; have hyO78 := hOs; clear hO hOs
      have bO78_0 : BoxAt X79 O78 0 (.slice none 0 0) := hbx 0 _ rfl
      have bO78_1 : BoxAt X79 O78 1 (.slice none 0 0) := hbx 1 _ rfl
      clear hbx
      replace hE := hE.trans hb
      replace bO1_0 := BoxAt.ext hb bO1_0
      replace bO1_1 := BoxAt.ext hb bO1_1
      replace bO1_2 := BoxAt.ext hb bO1_2
      replace bO1_3 := BoxAt.ext hb bO1_3
      replace bO1_4 := BoxAt.ext hb bO1_4
      replace bO1_5 := BoxAt.ext hb bO1_5
      replace bO1_6 := BoxAt.ext hb bO1_6
      replace bO5_0 := BoxAt.ext hb bO5_0
      replace bO9_0 := BoxAt.ext hb bO9_0
      replace bO13_0 := BoxAt.ext hb bO13_0
      replace bO17_0 := BoxAt.ext hb bO17_0
      replace bO17_1 := BoxAt.ext hb bO17_1
      replace hc27 := hb.cell hc27
      replace hrk39 := hrk39.ext hb
      replace z0 := BoxAt.ext hb z0
      replace z1 := BoxAt.ext hb z1
      replace ra1 := ra1.ext hb
      replace ra2 := ra2.ext hb
      replace hr72 := hr72.ext hb
      replace hr73 := hr73.ext hb
      have hs80 := hb.size
      clear hb
      have lt81 := bO78_0.lt
      refine ipl_put rfl (by kernel_rfl) (by kernel_rfl) (sn_set2 (O := O78) (j := 0) (v := .slice (some ⟨B65, 0, none⟩) 24 k67) (v' := .slice (some ⟨g66, 0, none⟩) 24 k68) (ex_store (p := .pointer (some ⟨O78, 0, none⟩)) (v := .agg #[.slice (some ⟨B65, 0, none⟩) 24 k67, .slice (some ⟨g66, 0, none⟩) 24 k68]) rfl (by kernel_rfl) (by kernel_rfl) (st43 bO78_0.1 bO78_0.2 bO78_1.1 bO78_1.2)) bO78_0 bO78_1 ?_)
      intro X82 ho hv0 hv1 hk
      replace hE := ho.ext hE (Nat.le_trans (Nat.le_trans hs3 (Nat.le_trans hs7 (Nat.le_trans hs11 (Nat.le_trans hs15 (Nat.le_trans hs19 (Nat.le_trans hs23 (Nat.le_trans hs29 (Nat.le_trans hs32 (Nat.le_trans hs38 hs75))))))))) (Nat.le_of_eq hzO78))
      replace bO1_0 := ho.box (Nat.ne_of_gt (Nat.lt_of_lt_of_le lt4 (Nat.le_trans (Nat.le_trans hs7 (Nat.le_trans hs11 (Nat.le_trans hs15 (Nat.le_trans hs19 (Nat.le_trans hs23 (Nat.le_trans hs29 (Nat.le_trans hs32 (Nat.le_trans hs38 hs75)))))))) (Nat.le_of_eq hzO78)))) bO1_0
      replace bO1_1 := ho.box (Nat.ne_of_gt (Nat.lt_of_lt_of_le lt4 (Nat.le_trans (Nat.le_trans hs7 (Nat.le_trans hs11 (Nat.le_trans hs15 (Nat.le_trans hs19 (Nat.le_trans hs23 (Nat.le_trans hs29 (Nat.le_trans hs32 (Nat.le_trans hs38 hs75)))))))) (Nat.le_of_eq hzO78)))) bO1_1
      replace bO1_2 := ho.box (Nat.ne_of_gt (Nat.lt_of_lt_of_le lt4 (Nat.le_trans (Nat.le_trans hs7 (Nat.le_trans hs11 (Nat.le_trans hs15 (Nat.le_trans hs19 (Nat.le_trans hs23 (Nat.le_trans hs29 (Nat.le_trans hs32 (Nat.le_trans hs38 hs75)))))))) (Nat.le_of_eq hzO78)))) bO1_2
      replace bO1_3 := ho.box (Nat.ne_of_gt (Nat.lt_of_lt_of_le lt4 (Nat.le_trans (Nat.le_trans hs7 (Nat.le_trans hs11 (Nat.le_trans hs15 (Nat.le_trans hs19 (Nat.le_trans hs23 (Nat.le_trans hs29 (Nat.le_trans hs32 (Nat.le_trans hs38 hs75)))))))) (Nat.le_of_eq hzO78)))) bO1_3
      replace bO1_4 := ho.box (Nat.ne_of_gt (Nat.lt_of_lt_of_le lt4 (Nat.le_trans (Nat.le_trans hs7 (Nat.le_trans hs11 (Nat.le_trans hs15 (Nat.le_trans hs19 (Nat.le_trans hs23 (Nat.le_trans hs29 (Nat.le_trans hs32 (Nat.le_trans hs38 hs75)))))))) (Nat.le_of_eq hzO78)))) bO1_4
      replace bO1_5 := ho.box (Nat.ne_of_gt (Nat.lt_of_lt_of_le lt4 (Nat.le_trans (Nat.le_trans hs7 (Nat.le_trans hs11 (Nat.le_trans hs15 (Nat.le_trans hs19 (Nat.le_trans hs23 (Nat.le_trans hs29 (Nat.le_trans hs32 (Nat.le_trans hs38 hs75)))))))) (Nat.le_of_eq hzO78)))) bO1_5
      replace bO1_6 := ho.box (Nat.ne_of_gt (Nat.lt_of_lt_of_le lt4 (Nat.le_trans (Nat.le_trans hs7 (Nat.le_trans hs11 (Nat.le_trans hs15 (Nat.le_trans hs19 (Nat.le_trans hs23 (Nat.le_trans hs29 (Nat.le_trans hs32 (Nat.le_trans hs38 hs75)))))))) (Nat.le_of_eq hzO78)))) bO1_6
      replace bO5_0 := ho.box (Nat.ne_of_gt (Nat.lt_of_lt_of_le lt8 (Nat.le_trans (Nat.le_trans hs11 (Nat.le_trans hs15 (Nat.le_trans hs19 (Nat.le_trans hs23 (Nat.le_trans hs29 (Nat.le_trans hs32 (Nat.le_trans hs38 hs75))))))) (Nat.le_of_eq hzO78)))) bO5_0
      replace bO9_0 := ho.box (Nat.ne_of_gt (Nat.lt_of_lt_of_le lt12 (Nat.le_trans (Nat.le_trans hs15 (Nat.le_trans hs19 (Nat.le_trans hs23 (Nat.le_trans hs29 (Nat.le_trans hs32 (Nat.le_trans hs38 hs75)))))) (Nat.le_of_eq hzO78)))) bO9_0
      replace bO13_0 := ho.box (Nat.ne_of_gt (Nat.lt_of_lt_of_le lt16 (Nat.le_trans (Nat.le_trans hs19 (Nat.le_trans hs23 (Nat.le_trans hs29 (Nat.le_trans hs32 (Nat.le_trans hs38 hs75))))) (Nat.le_of_eq hzO78)))) bO13_0
      replace bO17_0 := ho.box (Nat.ne_of_gt (Nat.lt_of_lt_of_le lt20 (Nat.le_trans (Nat.le_trans hs23 (Nat.le_trans hs29 (Nat.le_trans hs32 (Nat.le_trans hs38 hs75)))) (Nat.le_of_eq hzO78)))) bO17_0
      replace bO17_1 := ho.box (Nat.ne_of_gt (Nat.lt_of_lt_of_le lt20 (Nat.le_trans (Nat.le_trans hs23 (Nat.le_trans hs29 (Nat.le_trans hs32 (Nat.le_trans hs38 hs75)))) (Nat.le_of_eq hzO78)))) bO17_1
      replace hc27 := ho.cell (Nat.ne_of_gt (Nat.lt_of_lt_of_le lt30 (Nat.le_trans (Nat.le_trans hs32 (Nat.le_trans hs38 hs75)) (Nat.le_of_eq hzO78)))) hc27
      replace hrk39 := hrk39.turn ho (.inr (Nat.le_trans hs75 (Nat.le_of_eq hzO78)))
      replace z0 := ho.box (Nat.ne_of_gt (Nat.lt_of_lt_of_le lt24 (Nat.le_trans (Nat.le_trans hs29 (Nat.le_trans hs32 (Nat.le_trans hs38 hs75))) (Nat.le_of_eq hzO78)))) z0
      replace z1 := ho.box (Nat.ne_of_gt (Nat.lt_of_lt_of_le lt24 (Nat.le_trans (Nat.le_trans hs29 (Nat.le_trans hs32 (Nat.le_trans hs38 hs75))) (Nat.le_of_eq hzO78)))) z1
      replace ra1 := ho.rows (Nat.ne_of_gt (Nat.lt_of_lt_of_le lt63 (Nat.le_trans hs75 (Nat.le_of_eq hzO78)))) ra1
      replace ra2 := ho.rows (Nat.ne_of_gt (Nat.lt_of_lt_of_le lt64 (Nat.le_trans hs75 (Nat.le_of_eq hzO78)))) ra2
      replace hr72 := ho.rows (Nat.ne_of_gt (Nat.lt_of_lt_of_le lt76 (Nat.le_of_eq hzO78))) hr72
      replace hr73 := ho.rows (Nat.ne_of_gt (Nat.lt_of_lt_of_le lt77 (Nat.le_of_eq hzO78))) hr73
      have hs83 : X79.heap.size ≤ X82.heap.size := Nat.le_of_eq ho.size.symm
      clear ho hk bO78_0 bO78_1
      have bO78_0 := hv0; clear hv0
      have bO78_1 := hv1; clear hv1
      refine ipl_nil ?_
      refine iqw_then ?_
      refine icw_seq ?_
      refine icw_plain ?_
      refine ipl_take (.int .i64 (-o.sl + ((i : Nat) : Int) : Int)) rfl (by kernel_rfl) (by kernel_rfl) (by kernel_rfl) (by kernel_rfl) ?_
      refine ipl_take (.pointer (some ⟨O1, 6, none⟩)) rfl (by kernel_rfl) (by kernel_rfl) (by kernel_rfl) (by kernel_rfl) ?_
      refine ipl_take (.int .i64 (o.sl : Int)) rfl (by kernel_rfl) (by kernel_rfl) (by kernel_rfl) (ex_load rfl (by kernel_rfl) (ld3 (bO1_6.1))) ?_
      refine ipl_take (.int .i64 (-o.sl : Int)) rfl (by kernel_rfl) (by kernel_rfl) (by kernel_rfl) (ev_int (ev_wrap (a := 0 - o.sl) (by kernel_rfl) (by omega) (by omega)) (by omega)) ?_
      refine ipl_take (.bool false) rfl (by kernel_rfl) (by kernel_rfl) (by kernel_rfl) (ev_neq (show _ = Result.ok (Next.value (Value.bool ((-o.sl + ((i : Nat) : Int) : Int) == (-o.sl : Int)))) _ from by kernel_rfl) (by omega)) ?_
      refine ipl_nil ?_
      refine iqw_then ?_
      refine icw_clean [6, 7, 9, 11, 22] (ws' := [(6, .pointer (some ⟨O9, 0, none⟩)), (7, .pointer (some ⟨O13, 0, none⟩)), (9, .pointer (some ⟨O21, 0, none⟩)), (11, .pointer (some ⟨O78, 0, none⟩)), (22, .bool false)]) (by kernel_rfl) (fun L => ?_)
      refine icw_f (by kernel_rfl) ?_
      refine icw_plain ?_
      refine ipl_take (.func (.func 28) #[] #[]) rfl (by kernel_rfl) (by kernel_rfl) (by kernel_rfl) (ex_load rfl (by kernel_rfl) (ld68 (bO13_0.1))) ?_
      refine ipl_take (.agg #[.slice (some ⟨A1, 0, none⟩) 24 c1, .slice (some ⟨A2, 0, none⟩) 24 c2]) rfl (by kernel_rfl) (by kernel_rfl) (by kernel_rfl) (ex_load rfl (by kernel_rfl) (ld43 (z0.1) (z1.1))) ?_
      refine ipl_take (.agg #[.slice (some ⟨B65, 0, none⟩) 24 k67, .slice (some ⟨g66, 0, none⟩) 24 k68]) rfl (by kernel_rfl) (by kernel_rfl) (by kernel_rfl) (ex_load rfl (by kernel_rfl) (ld43 (bO78_0.1) (bO78_1.1))) ?_
      refine ipl_step rfl (by kernel_rfl) (by kernel_rfl) (by kernel_rfl) (sn_call (f := 28) (args := #[.agg #[.slice (some ⟨A1, 0, none⟩) 24 c1, .slice (some ⟨A2, 0, none⟩) 24 c2], .agg #[.slice (some ⟨B65, 0, none⟩) 24 k67, .slice (some ⟨g66, 0, none⟩) 24 k68]]) (by kernel_rfl) ((both_c _ ra1 (Swath.foldM_valid (Swath.areaJ_valid hok s lk) i) ra2 (Swath.foldU_valid (Swath.areaJ_valid hok s lk) i) (RowsAt.va (L := Swath.areaJ o s lk i) hr72 (Swath.areaJ_valid hok s lk i)) (RowsAt.va (L := Swath.areaJ o s lk i) hr73 (Swath.areaJ_valid hok s lk i)) na9.out (Nat.ne_of_lt (Nat.lt_of_lt_of_le lt63 hn69)) (Nat.ne_of_lt (Nat.lt_of_lt_of_le lt63 hn70)) (Nat.ne_of_lt (Nat.lt_of_lt_of_le lt64 hn69)) (Nat.ne_of_lt (Nat.lt_of_lt_of_le lt64 hn70))).mono ?_))
      rintro e w87 ⟨rfl, hr84, hr85, hw86⟩
      replace hE := hw86.ext hE (fun k hk => hk.elim (fun e => e ▸ (Nat.le_trans (Nat.le_trans hs3 (Nat.le_trans hs7 (Nat.le_trans hs11 (Nat.le_trans hs15 (Nat.le_trans hs19 (Nat.le_trans hs23 hs29)))))) la1)) (fun e => e ▸ (Nat.le_trans (Nat.le_trans hs3 (Nat.le_trans hs7 (Nat.le_trans hs11 (Nat.le_trans hs15 (Nat.le_trans hs19 (Nat.le_trans hs23 hs29)))))) la2)))
      replace bO1_0 := hw86.box (fun hx => hx.elim (Nat.ne_of_lt (Nat.lt_of_lt_of_le lt4 (Nat.le_trans (Nat.le_trans hs7 (Nat.le_trans hs11 (Nat.le_trans hs15 (Nat.le_trans hs19 (Nat.le_trans hs23 hs29))))) la1))) (Nat.ne_of_lt (Nat.lt_of_lt_of_le lt4 (Nat.le_trans (Nat.le_trans hs7 (Nat.le_trans hs11 (Nat.le_trans hs15 (Nat.le_trans hs19 (Nat.le_trans hs23 hs29))))) la2)))) bO1_0
      replace bO1_1 := hw86.box (fun hx => hx.elim (Nat.ne_of_lt (Nat.lt_of_lt_of_le lt4 (Nat.le_trans (Nat.le_trans hs7 (Nat.le_trans hs11 (Nat.le_trans hs15 (Nat.le_trans hs19 (Nat.le_trans hs23 hs29))))) la1))) (Nat.ne_of_lt (Nat.lt_of_lt_of_le lt4 (Nat.le_trans (Nat.le_trans hs7 (Nat.le_trans hs11 (Nat.le_trans hs15 (Nat.le_trans hs19 (Nat.le_trans hs23 hs29))))) la2)))) bO1_1
      replace bO1_2 := hw86.box (fun hx => hx.elim (Nat.ne_of_lt (Nat.lt_of_lt_of_le lt4 (Nat.le_trans (Nat.le_trans hs7 (Nat.le_trans hs11 (Nat.le_trans hs15 (Nat.le_trans hs19 (Nat.le_trans hs23 hs29))))) la1))) (Nat.ne_of_lt (Nat.lt_of_lt_of_le lt4 (Nat.le_trans (Nat.le_trans hs7 (Nat.le_trans hs11 (Nat.le_trans hs15 (Nat.le_trans hs19 (Nat.le_trans hs23 hs29))))) la2)))) bO1_2
      replace bO1_3 := hw86.box (fun hx => hx.elim (Nat.ne_of_lt (Nat.lt_of_lt_of_le lt4 (Nat.le_trans (Nat.le_trans hs7 (Nat.le_trans hs11 (Nat.le_trans hs15 (Nat.le_trans hs19 (Nat.le_trans hs23 hs29))))) la1))) (Nat.ne_of_lt (Nat.lt_of_lt_of_le lt4 (Nat.le_trans (Nat.le_trans hs7 (Nat.le_trans hs11 (Nat.le_trans hs15 (Nat.le_trans hs19 (Nat.le_trans hs23 hs29))))) la2)))) bO1_3
      replace bO1_4 := hw86.box (fun hx => hx.elim (Nat.ne_of_lt (Nat.lt_of_lt_of_le lt4 (Nat.le_trans (Nat.le_trans hs7 (Nat.le_trans hs11 (Nat.le_trans hs15 (Nat.le_trans hs19 (Nat.le_trans hs23 hs29))))) la1))) (Nat.ne_of_lt (Nat.lt_of_lt_of_le lt4 (Nat.le_trans (Nat.le_trans hs7 (Nat.le_trans hs11 (Nat.le_trans hs15 (Nat.le_trans hs19 (Nat.le_trans hs23 hs29))))) la2)))) bO1_4
      replace bO1_5 := hw86.box (fun hx => hx.elim (Nat.ne_of_lt (Nat.lt_of_lt_of_le lt4 (Nat.le_trans (Nat.le_trans hs7 (Nat.le_trans hs11 (Nat.le_trans hs15 (Nat.le_trans hs19 (Nat.le_trans hs23 hs29))))) la1))) (Nat.ne_of_lt (Nat.lt_of_lt_of_le lt4 (Nat.le_trans (Nat.le_trans hs7 (Nat.le_trans hs11 (Nat.le_trans hs15 (Nat.le_trans hs19 (Nat.le_trans hs23 hs29))))) la2)))) bO1_5
      replace bO1_6 := hw86.box (fun hx => hx.elim (Nat.ne_of_lt (Nat.lt_of_lt_of_le lt4 (Nat.le_trans (Nat.le_trans hs7 (Nat.le_trans hs11 (Nat.le_trans hs15 (Nat.le_trans hs19 (Nat.le_trans hs23 hs29))))) la1))) (Nat.ne_of_lt (Nat.lt_of_lt_of_le lt4 (Nat.le_trans (Nat.le_trans hs7 (Nat.le_trans hs11 (Nat.le_trans hs15 (Nat.le_trans hs19 (Nat.le_trans hs23 hs29))))) la2)))) bO1_6
      replace bO5_0 := hw86.box (fun hx => hx.elim (Nat.ne_of_lt (Nat.lt_of_lt_of_le lt8 (Nat.le_trans (Nat.le_trans hs11 (Nat.le_trans hs15 (Nat.le_trans hs19 (Nat.le_trans hs23 hs29)))) la1))) (Nat.ne_of_lt (Nat.lt_of_lt_of_le lt8 (Nat.le_trans (Nat.le_trans hs11 (Nat.le_trans hs15 (Nat.le_trans hs19 (Nat.le_trans hs23 hs29)))) la2)))) bO5_0
      replace bO9_0 := hw86.box (fun hx => hx.elim (Nat.ne_of_lt (Nat.lt_of_lt_of_le lt12 (Nat.le_trans (Nat.le_trans hs15 (Nat.le_trans hs19 (Nat.le_trans hs23 hs29))) la1))) (Nat.ne_of_lt (Nat.lt_of_lt_of_le lt12 (Nat.le_trans (Nat.le_trans hs15 (Nat.le_trans hs19 (Nat.le_trans hs23 hs29))) la2)))) bO9_0
      replace bO13_0 := hw86.box (fun hx => hx.elim (Nat.ne_of_lt (Nat.lt_of_lt_of_le lt16 (Nat.le_trans (Nat.le_trans hs19 (Nat.le_trans hs23 hs29)) la1))) (Nat.ne_of_lt (Nat.lt_of_lt_of_le lt16 (Nat.le_trans (Nat.le_trans hs19 (Nat.le_trans hs23 hs29)) la2)))) bO13_0
      replace bO17_0 := hw86.box (fun hx => hx.elim (Nat.ne_of_lt (Nat.lt_of_lt_of_le lt20 (Nat.le_trans (Nat.le_trans hs23 hs29) la1))) (Nat.ne_of_lt (Nat.lt_of_lt_of_le lt20 (Nat.le_trans (Nat.le_trans hs23 hs29) la2)))) bO17_0
      replace bO17_1 := hw86.box (fun hx => hx.elim (Nat.ne_of_lt (Nat.lt_of_lt_of_le lt20 (Nat.le_trans (Nat.le_trans hs23 hs29) la1))) (Nat.ne_of_lt (Nat.lt_of_lt_of_le lt20 (Nat.le_trans (Nat.le_trans hs23 hs29) la2)))) bO17_1
      replace hc27 := hw86.cell (fun hx => hx.elim (Nat.ne_of_lt (Nat.lt_of_lt_of_le lt30 la1)) (Nat.ne_of_lt (Nat.lt_of_lt_of_le lt30 la2))) hc27
      replace hrk39 := hrk39.wrote hw86 (fun k hk => hk.elim (fun e => e ▸ (.inl (.inr la1))) (fun e => e ▸ (.inl (.inr la2))))
      replace z0 := hw86.box (fun hx => hx.elim (Nat.ne_of_lt (Nat.lt_of_lt_of_le lt24 (Nat.le_trans hs29 la1))) (Nat.ne_of_lt (Nat.lt_of_lt_of_le lt24 (Nat.le_trans hs29 la2)))) z0
      replace z1 := hw86.box (fun hx => hx.elim (Nat.ne_of_lt (Nat.lt_of_lt_of_le lt24 (Nat.le_trans hs29 la1))) (Nat.ne_of_lt (Nat.lt_of_lt_of_le lt24 (Nat.le_trans hs29 la2)))) z1
      replace hr72 := hw86.rows (fun hx => hx.elim (Nat.ne_of_gt (Nat.lt_of_lt_of_le lt63 hn69)) (Nat.ne_of_gt (Nat.lt_of_lt_of_le lt64 hn69))) hr72
      replace hr73 := hw86.rows (fun hx => hx.elim (Nat.ne_of_gt (Nat.lt_of_lt_of_le lt63 hn70)) (Nat.ne_of_gt (Nat.lt_of_lt_of_le lt64 hn70))) hr73
      replace bO78_0 := hw86.box (fun hx => hx.elim (Nat.ne_of_gt (Nat.lt_of_lt_of_le lt63 (Nat.le_trans hs75 (Nat.le_of_eq hzO78)))) (Nat.ne_of_gt (Nat.lt_of_lt_of_le lt64 (Nat.le_trans hs75 (Nat.le_of_eq hzO78))))) bO78_0
      replace bO78_1 := hw86.box (fun hx => hx.elim (Nat.ne_of_gt (Nat.lt_of_lt_of_le lt63 (Nat.le_trans hs75 (Nat.le_of_eq hzO78)))) (Nat.ne_of_gt (Nat.lt_of_lt_of_le lt64 (Nat.le_trans hs75 (Nat.le_of_eq hzO78))))) bO78_1
      have hs88 := hw86.size
      have lt89 := hr84.lt
      have lt90 := hr85.lt
      refine ⟨_, rfl, ?_⟩
      refine ipl_put rfl (by kernel_rfl) (by kernel_rfl) (sn_set2 (O := O21) (j := 0) (v := .slice (some ⟨A1, 0, none⟩) 24 c1) (v' := .slice (some ⟨A2, 0, none⟩) 24 c2) (ex_store (p := .pointer (some ⟨O21, 0, none⟩)) (v := .agg #[.slice (some ⟨A1, 0, none⟩) 24 c1, .slice (some ⟨A2, 0, none⟩) 24 c2]) rfl (by kernel_rfl) (by kernel_rfl) (st43 z0.1 z0.2 z1.1 z1.2)) z0 z1 ?_)
      intro X91 ho hv0 hv1 hk
      replace hE := ho.ext hE (Nat.le_trans (Nat.le_trans hs3 (Nat.le_trans hs7 (Nat.le_trans hs11 (Nat.le_trans hs15 hs19)))) (Nat.le_of_eq hzO21))
      replace bO1_0 := ho.box (Nat.ne_of_gt (Nat.lt_of_lt_of_le lt4 (Nat.le_trans (Nat.le_trans hs7 (Nat.le_trans hs11 (Nat.le_trans hs15 hs19))) (Nat.le_of_eq hzO21)))) bO1_0
      replace bO1_1 := ho.box (Nat.ne_of_gt (Nat.lt_of_lt_of_le lt4 (Nat.le_trans (Nat.le_trans hs7 (Nat.le_trans hs11 (Nat.le_trans hs15 hs19))) (Nat.le_of_eq hzO21)))) bO1_1
      replace bO1_2 := ho.box (Nat.ne_of_gt (Nat.lt_of_lt_of_le lt4 (Nat.le_trans (Nat.le_trans hs7 (Nat.le_trans hs11 (Nat.le_trans hs15 hs19))) (Nat.le_of_eq hzO21)))) bO1_2
      replace bO1_3 := ho.box (Nat.ne_of_gt (Nat.lt_of_lt_of_le lt4 (Nat.le_trans (Nat.le_trans hs7 (Nat.le_trans hs11 (Nat.le_trans hs15 hs19))) (Nat.le_of_eq hzO21)))) bO1_3
      replace bO1_4 := ho.box (Nat.ne_of_gt (Nat.lt_of_lt_of_le lt4 (Nat.le_trans (Nat.le_trans hs7 (Nat.le_trans hs11 (Nat.le_trans hs15 hs19))) (Nat.le_of_eq hzO21)))) bO1_4
      replace bO1_5 := ho.box (Nat.ne_of_gt (Nat.lt_of_lt_of_le lt4 (Nat.le_trans (Nat.le_trans hs7 (Nat.le_trans hs11 (Nat.le_trans hs15 hs19))) (Nat.le_of_eq hzO21)))) bO1_5
      replace bO1_6 := ho.box (Nat.ne_of_gt (Nat.lt_of_lt_of_le lt4 (Nat.le_trans (Nat.le_trans hs7 (Nat.le_trans hs11 (Nat.le_trans hs15 hs19))) (Nat.le_of_eq hzO21)))) bO1_6
      replace bO5_0 := ho.box (Nat.ne_of_gt (Nat.lt_of_lt_of_le lt8 (Nat.le_trans (Nat.le_trans hs11 (Nat.le_trans hs15 hs19)) (Nat.le_of_eq hzO21)))) bO5_0
      replace bO9_0 := ho.box (Nat.ne_of_gt (Nat.lt_of_lt_of_le lt12 (Nat.le_trans (Nat.le_trans hs15 hs19) (Nat.le_of_eq hzO21)))) bO9_0
      replace bO13_0 := ho.box (Nat.ne_of_gt (Nat.lt_of_lt_of_le lt16 (Nat.le_trans hs19 (Nat.le_of_eq hzO21)))) bO13_0
      replace bO17_0 := ho.box (Nat.ne_of_gt (Nat.lt_of_lt_of_le lt20 (Nat.le_of_eq hzO21))) bO17_0
      replace bO17_1 := ho.box (Nat.ne_of_gt (Nat.lt_of_lt_of_le lt20 (Nat.le_of_eq hzO21))) bO17_1
      replace hc27 := ho.cell (Nat.ne_of_lt (Nat.lt_of_lt_of_le lt24 hn26)) hc27
      replace hrk39 := hrk39.turn ho (.inl (.inl rfl))
      replace hr72 := ho.rows (Nat.ne_of_lt (Nat.lt_of_lt_of_le lt24 (Nat.le_trans (Nat.le_trans hs29 (Nat.le_trans hs32 hs38)) hn69))) hr72
      replace hr73 := ho.rows (Nat.ne_of_lt (Nat.lt_of_lt_of_le lt24 (Nat.le_trans (Nat.le_trans hs29 (Nat.le_trans hs32 hs38)) hn70))) hr73
      replace bO78_0 := ho.box (Nat.ne_of_lt (Nat.lt_of_lt_of_le lt24 (Nat.le_trans (Nat.le_trans hs29 (Nat.le_trans hs32 (Nat.le_trans hs38 hs75))) (Nat.le_of_eq hzO78)))) bO78_0
      replace bO78_1 := ho.box (Nat.ne_of_lt (Nat.lt_of_lt_of_le lt24 (Nat.le_trans (Nat.le_trans hs29 (Nat.le_trans hs32 (Nat.le_trans hs38 hs75))) (Nat.le_of_eq hzO78)))) bO78_1
      replace hr84 := ho.rows (Nat.ne_of_lt (Nat.lt_of_lt_of_le lt24 (Nat.le_trans hs29 la1))) hr84
      replace hr85 := ho.rows (Nat.ne_of_lt (Nat.lt_of_lt_of_le lt24 (Nat.le_trans hs29 la2))) hr85
      have hs92 : w87.heap.size ≤ X91.heap.size := Nat.le_of_eq ho.size.symm
      clear ho hk z0 z1
      have z0 := hv0; clear hv0
      have z1 := hv1; clear hv1
      refine ipl_nil ?_
      refine iqw_block ?_
      exact iqw_next hrk39 ⟨(Nat.le_trans hs32 (Nat.le_trans hs38 (Nat.le_trans hs75 (Nat.le_trans hs80 (Nat.le_trans hs83 (Nat.le_trans hs88 hs92)))))), hE, bO1_0, bO1_1, bO1_2, bO1_3, bO1_4, bO1_5, bO1_6, bO5_0, bO9_0, bO13_0, bO17_0, bO17_1, hc27, (fold_next hi0 z0 z1 la1 la2 na9.out hr84 hr85)⟩
  ·
    clear bO1_0 bO1_1 bO1_2 bO1_3 bO1_4 bO1_5 bO1_6 bO5_0 bO9_0 bO13_0 bO17_0 bO17_1 bO21_0 bO21_1 hc27 hE
    intro D93 w94 hD97 hDl98 h hmk96
    obtain ⟨hs95, hE, bO1_0, bO1_1, bO1_2, bO1_3, bO1_4, bO1_5, bO1_6, bO5_0, bO9_0, bO13_0, bO17_0, bO17_1, hc27, hF⟩ := h
    obtain ⟨hi0, A1, A2, c1, c2, z0, z1, la1, la2, na, ra1, ra2⟩ := hF.resolve_left (fun h => by have := h.1; omega)
    have na9 := Lib.hid na
    refine iqw_block ?_
    refine iqw_then ?_
    refine icw_seq ?_
    refine icw_plain ?_
    refine ipl_take (.agg #[.slice (some ⟨A1, 0, none⟩) 24 c1, .slice (some ⟨A2, 0, none⟩) 24 c2]) rfl (by kernel_rfl) (by kernel_rfl) (by kernel_rfl) (ex_load rfl (by kernel_rfl) (ld43 (z0.1) (z1.1))) ?_
    refine ipl_put rfl (by kernel_rfl) (by kernel_rfl) (sn_set2 (O := O17) (j := 0) (v := .slice (some ⟨A1, 0, none⟩) 24 c1) (v' := .slice (some ⟨A2, 0, none⟩) 24 c2) (ex_store (p := .pointer (some ⟨O17, 0, none⟩)) (v := .agg #[.slice (some ⟨A1, 0, none⟩) 24 c1, .slice (some ⟨A2, 0, none⟩) 24 c2]) rfl (by kernel_rfl) (by kernel_rfl) (st43 bO17_0.1 bO17_0.2 bO17_1.1 bO17_1.2)) bO17_0 bO17_1 ?_)
    intro X99 ho hv0 hv1 hk
    replace hE := ho.ext hE (Nat.le_trans (Nat.le_trans hs3 (Nat.le_trans hs7 (Nat.le_trans hs11 hs15))) (Nat.le_of_eq hzO17))
    replace bO1_0 := ho.box (Nat.ne_of_gt (Nat.lt_of_lt_of_le lt4 (Nat.le_trans (Nat.le_trans hs7 (Nat.le_trans hs11 hs15)) (Nat.le_of_eq hzO17)))) bO1_0
    replace bO1_1 := ho.box (Nat.ne_of_gt (Nat.lt_of_lt_of_le lt4 (Nat.le_trans (Nat.le_trans hs7 (Nat.le_trans hs11 hs15)) (Nat.le_of_eq hzO17)))) bO1_1
    replace bO1_2 := ho.box (Nat.ne_of_gt (Nat.lt_of_lt_of_le lt4 (Nat.le_trans (Nat.le_trans hs7 (Nat.le_trans hs11 hs15)) (Nat.le_of_eq hzO17)))) bO1_2
    replace bO1_3 := ho.box (Nat.ne_of_gt (Nat.lt_of_lt_of_le lt4 (Nat.le_trans (Nat.le_trans hs7 (Nat.le_trans hs11 hs15)) (Nat.le_of_eq hzO17)))) bO1_3
    replace bO1_4 := ho.box (Nat.ne_of_gt (Nat.lt_of_lt_of_le lt4 (Nat.le_trans (Nat.le_trans hs7 (Nat.le_trans hs11 hs15)) (Nat.le_of_eq hzO17)))) bO1_4
    replace bO1_5 := ho.box (Nat.ne_of_gt (Nat.lt_of_lt_of_le lt4 (Nat.le_trans (Nat.le_trans hs7 (Nat.le_trans hs11 hs15)) (Nat.le_of_eq hzO17)))) bO1_5
    replace bO1_6 := ho.box (Nat.ne_of_gt (Nat.lt_of_lt_of_le lt4 (Nat.le_trans (Nat.le_trans hs7 (Nat.le_trans hs11 hs15)) (Nat.le_of_eq hzO17)))) bO1_6
    replace bO5_0 := ho.box (Nat.ne_of_gt (Nat.lt_of_lt_of_le lt8 (Nat.le_trans (Nat.le_trans hs11 hs15) (Nat.le_of_eq hzO17)))) bO5_0
    replace bO9_0 := ho.box (Nat.ne_of_gt (Nat.lt_of_lt_of_le lt12 (Nat.le_trans hs15 (Nat.le_of_eq hzO17)))) bO9_0
    replace bO13_0 := ho.box (Nat.ne_of_gt (Nat.lt_of_lt_of_le lt16 (Nat.le_of_eq hzO17))) bO13_0
    replace hc27 := ho.cell (Nat.ne_of_lt (Nat.lt_of_lt_of_le lt20 (Nat.le_trans hs23 hn26))) hc27
    replace hmk96 := mk_turn hmk96 ho
    replace z0 := ho.box (Nat.ne_of_lt (Nat.lt_of_lt_of_le lt20 (Nat.le_of_eq hzO21))) z0
    replace z1 := ho.box (Nat.ne_of_lt (Nat.lt_of_lt_of_le lt20 (Nat.le_of_eq hzO21))) z1
    replace ra1 := ho.rows (Nat.ne_of_lt (Nat.lt_of_lt_of_le lt20 (Nat.le_trans (Nat.le_trans hs23 hs29) la1))) ra1
    replace ra2 := ho.rows (Nat.ne_of_lt (Nat.lt_of_lt_of_le lt20 (Nat.le_trans (Nat.le_trans hs23 hs29) la2))) ra2
    have hs100 : w94.heap.size ≤ X99.heap.size := Nat.le_of_eq ho.size.symm
    clear ho hk bO17_0 bO17_1
    have bO17_0 := hv0; clear hv0
    have bO17_1 := hv1; clear hv1
    refine ipl_nil ?_
    refine iqw_then ?_
    refine icw_ret ?_
    refine iqw_ret w.heap.size [.agg #[.slice (some ⟨A1, 0, none⟩) 24 c1, .slice (some ⟨A2, 0, none⟩) 24 c2]] rfl (marksC (Nat.le_trans (Nat.le_trans hs3 (Nat.le_trans hs7 (Nat.le_trans hs11 (Nat.le_trans hs15 (Nat.le_trans hs19 (Nat.le_trans hs23 hs29)))))) hD97) hmk96 (fun _ h => by cases h)) (by simp) (fun W9 hm9 => ?_)
    replace hE := hm9.ext hE (Nat.le_refl _)
    replace bO1_0 := hm9.box bO1_0
    replace bO1_1 := hm9.box bO1_1
    replace bO1_2 := hm9.box bO1_2
    replace bO1_3 := hm9.box bO1_3
    replace bO1_4 := hm9.box bO1_4
    replace bO1_5 := hm9.box bO1_5
    replace bO1_6 := hm9.box bO1_6
    replace bO5_0 := hm9.box bO5_0
    replace bO9_0 := hm9.box bO9_0
    replace bO13_0 := hm9.box bO13_0
    replace hc27 := hm9.cell hc27
    replace z0 := hm9.box z0
    replace z1 := hm9.box z1
    replace ra1 := hm9.rows ra1
    replace ra2 := hm9.rows ra2
    replace bO17_0 := hm9.box bO17_0
    replace bO17_1 := hm9.box bO17_1
    have hs101 := hm9.size
    refine ⟨⟨⟨_, by kernel_rfl, res_ld (ld43 (bO17_0.1) (bO17_1.1))⟩, trivial⟩, ?_⟩
    exact ⟨A1, A2, _, _, rfl, (Nat.le_trans (Nat.le_trans hs3 (Nat.le_trans hs7 (Nat.le_trans hs11 (Nat.le_trans hs15 (Nat.le_trans hs19 (Nat.le_trans hs23 hs29)))))) la1), (Nat.le_trans (Nat.le_trans hs3 (Nat.le_trans hs7 (Nat.le_trans hs11 (Nat.le_trans hs15 (Nat.le_trans hs19 (Nat.le_trans hs23 hs29)))))) la2), na9.out, ra1, ra2, hE⟩
  · intro _ _ _ _ _ _ _ h _; exact h.elim

end Go.Proofs.YtdjjkhefdalokaaDoor

/- Contracts of package globe: mixed. -/
namespace Go.Proofs.YtdjjkhefdalokaaDoor
open Go.RowKit

theorem Valid_n (a : Option Addr) (l : List Int) (n c : Nat) (w : World) (h : IntsAt w a l) (hn : l.length = n) (hl : n ≤ 140737488355328) :
    Calls Tryd.prog 31 #[.agg #[.slice a n c]] w fun e w' => e = .returned (.bool (Globe.validL l)) ∧ Ext w w' := by
  subst hn
  exact Valid_c a l c w h hl
theorem Valid_v {v : Bool} (a : Option Addr) (l : List Int) (n c : Nat) (w : World) (h : IntsAt w a l) (hn : l.length = n) (hl : n ≤ 140737488355328) (hv : Globe.validL l = v) :
    Calls Tryd.prog 31 #[.agg #[.slice a n c]] w fun e w' => e = .returned (.bool v) ∧ Ext w w' := hv ▸ Valid_n a l n c w h hn hl
theorem ValidCell_v {v : Bool} (x y : Int) (w : World) (hv : Globe.vcB x y = v) :
    Calls Tryd.prog 33 #[.agg #[.int .i64 x, .int .i64 y]] w fun e w' => e = .returned (.bool v) ∧ Ext w w' := hv ▸ ValidCell_c x y w
theorem Valid_y (b o c : Nat) (l : List Int) (w : World) (h : ∀ i, i < 24 → w.cell? ⟨b, o + i, none⟩ = some (.int .i64 (Globe.nth l i))) (hv : Globe.validL l = true) :
    Calls Tryd.prog 31 #[.agg #[.slice (some ⟨b, o, none⟩) 24 c]] w fun e w' => e = .returned (.bool true) ∧ Ext w w' := by
  have hn := Globe.len_of_valid hv
  have := Valid_n (some ⟨b, o, none⟩) l 24 c w (.inr ⟨b, o, rfl, fun i hi => h i (by omega)⟩) hn (by omega)
  rwa [hv] at this

theorem Valid_e {v : Bool} {w0 : World} {a : Option Addr} {l : List Int} {n : Nat} (c : Nat) (w : World) (h : AA w0 a l n v) (hE : Ext w0 w) :
    Calls Tryd.prog 31 #[.agg #[.slice a n c]] w fun e w' => e = .returned (.bool v) ∧ Ext w w' :=
  Valid_v a l n c w (h.1.ext hE) h.2.1 h.2.2.1 h.2.2.2

/-- In the midst of the loop that fills the rows of an area of one's own (block B, its box at O). -/
def Fill (w : World) (O B : Nat) (L : List Int) (wr : World) : Prop := RowsAt wr B L ∧ wr.cell? ⟨O, 0, none⟩ = some (.slice (some ⟨B, 0, none⟩) 24 24) ∧ Ext w wr

set_option maxHeartbeats 2000000 in
theorem mixed_Less (b1 o1 c1 b2 o2 c2 : Nat) (l1 l2 : List Int) (w : World) (h1 : ∀ i, i < 24 → w.cell? ⟨b1, o1 + i, none⟩ = some (.int .i64 (Globe.nth l1 i))) (h2 : ∀ i, i < 24 → w.cell? ⟨b2, o2 + i, none⟩ = some (.int .i64 (Globe.nth l2 i)))
    (hv1 : Globe.validL l1 = true) (hv2 : Globe.validL l2 = true) :
    Calls Tryd.prog 79 #[.agg #[.slice (some ⟨b1, o1, none⟩) 24 c1], .agg #[.slice (some ⟨b2, o2, none⟩) 24 c2], .func (.func 80) #[] #[]] w (RetAE w (Globe.lessL l1 l2)) := by
  have H1 := Lib.hid h1; clear h1
  have H2 := Lib.hid h2; clear h2
  have Hv1 := Lib.hid hv1; clear hv1
  have Hv2 := Lib.hid hv2; clear hv2
  go_enter Tryd.func79, Tryd.ntmps79
  go_wp2_with (first | (go_at_call 31; refine (Valid_y _ _ _ _ _ (fun i hi => Ext.cell (show Ext w _ by (repeat' (first | (with_reducible assumption) | (with_reducible exact Ext.refl _) | (with_reducible refine Ext.alloc ?_ _) | (with_reducible refine Ext.drew ?_) | (with_reducible refine Ext.drewN ?_ _) | (with_reducible refine Ext.setCell ?_ ?_ _) | (with_reducible refine Ext.trans ?_ (by assumption)) | go_size))) (by first | exact H1.out i hi | exact H2.out i hi)) (by first | exact Hv1.out | exact Hv2.out)).mono ?_; rintro e w1 ⟨rfl, hb⟩; have hc := hb.cellE; have hf := hb.frozenE; have hz := hb.size; have ha := alloc_keeps w1; (try simp only [World.size_alloc] at hc hf hz); (try simp only [World.size_setCell] at hc hf hz); (try simp only [World.size_drew] at hc hf hz)) | (go_at_call 48; refine (Empty_c _).mono ?_; rintro e w2 ⟨B, rfl, hB, hr, hb2⟩))
  obtain ⟨O, hO⟩ : ∃ O, O = w2.heap.size := ⟨_, rfl⟩
  have hBO : B < O := by have := hr.lt; omega
  have hwB : w.heap.size + 1 + 1 + 1 ≤ B := by omega
  refine wp_name (fun V => V.cell? ⟨w.heap.size, 0, none⟩ = some (.slice (some ⟨b1, o1, none⟩) 24 c1) ∧ V.cell? ⟨w.heap.size + 1, 0, none⟩ = some (.slice (some ⟨b2, o2, none⟩) 24 c2) ∧ BoxAt V (w.heap.size + 1 + 1) 0 (.slice none 0 0) ∧ Fill w O B Globe.zeroL V) ⟨?_, ?_, ?_, ?_⟩ ?_
  · (repeat' (first | (with_reducible assumption) | (simp [go_sem]; done) | (with_reducible refine Ext.cell (Ext.alloc (Ext.refl _) _) ?_) | (with_reducible refine Ext.cell (by with_reducible assumption) ?_)))
  · (repeat' (first | (with_reducible assumption) | (simp [go_sem]; done) | (with_reducible refine Ext.cell (Ext.alloc (Ext.refl _) _) ?_) | (with_reducible refine Ext.cell (by with_reducible assumption) ?_)))
  · (repeat' (first | (with_reducible assumption) | (exact ⟨by simp [go_sem], by simp [go_sem]⟩) | (with_reducible refine BoxAt.ext (Ext.alloc (Ext.refl _) _) ?_) | (with_reducible refine BoxAt.ext (by with_reducible assumption) ?_)))
  · exact ⟨hr.ext (by (repeat' (first | (with_reducible assumption) | (with_reducible exact Ext.refl _) | (with_reducible refine Ext.alloc ?_ _) | (with_reducible refine Ext.drew ?_) | (with_reducible refine Ext.drewN ?_ _) | (with_reducible refine Ext.setCell ?_ ?_ _) | (with_reducible refine Ext.trans ?_ (by assumption)) | go_size))), by rw [hO]; simp [go_sem], by (repeat' (first | (with_reducible assumption) | (with_reducible exact Ext.refl _) | (with_reducible refine Ext.alloc ?_ _) | (with_reducible refine Ext.drew ?_) | (with_reducible refine Ext.drewN ?_ _) | (with_reducible refine Ext.setCell ?_ ?_ _) | (with_reducible refine Ext.trans ?_ (by assumption)) | go_size))⟩
  rintro V ⟨c3, c4, c6, hF⟩
  rw [← hO]
  clear hO hr hb2 hB
  iterate 2 clear hc hf hz ha hb
  rw [← Globe.partL_zero (Globe.lessL l1 l2)] at hF
  have hL : (Globe.lessL l1 l2).length = 24 := Globe.rowsF_len _
  have HL := Lib.hid hL; clear hL
  go_loopw [23] (fun p wr => ∃ y : Nat, y ≤ 24 ∧ p = .int .i64 y ∧ wr.cell? ⟨w.heap.size, 0, none⟩ = some (.slice (some ⟨b1, o1, none⟩) 24 c1) ∧ wr.cell? ⟨w.heap.size + 1, 0, none⟩ = some (.slice (some ⟨b2, o2, none⟩) 24 c2) ∧ BoxAt wr (w.heap.size + 1 + 1) 0 (.slice none 0 0) ∧ Fill w O B (Globe.partL (Globe.lessL l1 l2) y) wr) (fun p _ => 24 - (intOf p).toNat)
  case atStart => exact ⟨0, by omega, rfl, c3, c4, c6, hF⟩
  case round =>
    clear c3 c4 c6 hF
    obtain ⟨y, hy, rfl, c3, c4, c6, hr, cO, hE⟩ := hrel
    have hOl := World.block_lt_of_cell? wr _ cO
    by_cases hlt : y < 24
    · have hp := Globe.rowN_lt Hv1.out y
      have hq := Globe.rowN_lt Hv2.out y
      have d1 : wr.cell? ⟨b1, o1 + y, none⟩ = some (.int .i64 (Globe.rowN l1 y : Nat)) := by rw [← Globe.rowN_cast Hv1.out]; exact hE.cell (H1.out y hlt)
      have d2 : wr.cell? ⟨b2, o2 + y, none⟩ = some (.int .i64 (Globe.rowN l2 y : Nat)) := by rw [← Globe.rowN_cast Hv2.out]; exact hE.cell (H2.out y hlt)
      have d3 := hr.cell hlt
      have hb1 := IntsAt.lt H1.out
      have hb2 := IntsAt.lt H2.out
      have d4 := hr.free hlt
      have y0 : (0 : Int) ≤ (y : Int) := by omega
      have y1 : (y : Int) < 24 := by omega
      go_wp2_with fail
      go_region_held3 (fun w' => w'.cell? ⟨w.heap.size, 0, none⟩ = some (.slice (some ⟨b1, o1, none⟩) 24 c1) ∧ w'.cell? ⟨w.heap.size + 1, 0, none⟩ = some (.slice (some ⟨b2, o2, none⟩) 24 c2) ∧ w'.cell? ⟨O, 0, none⟩ = some (.slice (some ⟨B, 0, none⟩) 24 24) ∧ w'.cell? ⟨b1, o1 + y, none⟩ = some (.int .i64 (Globe.rowN l1 y : Nat)) ∧ w'.cell? ⟨b2, o2 + y, none⟩ = some (.int .i64 (Globe.rowN l2 y : Nat)))
        (first | ((repeat' (with_reducible apply And.intro)) <;> (first | (with_reducible assumption) | (simp [go_sem, c3, c4, cO, d1, d2]; done))))
        ((go_at_call 80; refine (Less1_c _ _ _ hp hq).mono ?_; rintro e w' ⟨rfl, rfl⟩))
      go_wp2
      go_roundw
      case rel =>
        refine ⟨y + 1, by omega, by go_num, by simpa [go_sem] using c3, by simpa [go_sem] using c4, (c6.other (p := ⟨B, y, none⟩) (by show B ≠ _; omega) _).drew, ?_, by simpa [go_sem] using cO, by (repeat' (first | (with_reducible assumption) | (with_reducible exact Ext.refl _) | (with_reducible refine Ext.alloc ?_ _) | (with_reducible refine Ext.drew ?_) | (with_reducible refine Ext.drewN ?_ _) | (with_reducible refine Ext.setCell ?_ ?_ _) | (with_reducible refine Ext.trans ?_ (by assumption)) | go_size))⟩
        have := (hr.set hlt (Globe.nth (Globe.lessL l1 l2) y)).drew
        rwa [Globe.partL_succ HL.out hlt, show Globe.nth (Globe.lessL l1 l2) y = _ from Globe.nth_rowsF _ hlt] at this
      case measure => simp [intOf]; omega
    · obtain rfl : y = 24 := by omega
      rw [Globe.partL_all HL.out] at hr
      obtain ⟨c6, f6⟩ := c6
      go_wp2_with fail
      refine bodyPost_ret (v := .tuple #[.agg #[.slice (some ⟨B, 0, none⟩) 24 24], .int .i64 0]) (by simp [results, Tryd.results79, go_sem, c6]) rfl ⟨B, rfl, by omega, hr.other (by show w.heap.size + 1 + 1 ≠ _; omega) _, by (repeat' (first | (with_reducible assumption) | (with_reducible exact Ext.refl _) | (with_reducible refine Ext.alloc ?_ _) | (with_reducible refine Ext.drew ?_) | (with_reducible refine Ext.drewN ?_ _) | (with_reducible refine Ext.setCell ?_ ?_ _) | (with_reducible refine Ext.trans ?_ (by assumption)) | go_size))⟩

end Go.Proofs.YtdjjkhefdalokaaDoor

/- Contracts of package globe: Shifted's loop; what is no area. -/
namespace Go.Proofs.YtdjjkhefdalokaaDoor
open Go.RowKit

end Go.Proofs.YtdjjkhefdalokaaDoor

/- Contracts of package globe: Union, Meet, Less, Shifted. -/
namespace Go.Proofs.YtdjjkhefdalokaaDoor
open Go.RowKit

set_option maxHeartbeats 1000000 in
/-- Where one of two is no area, the third argument plays no part. -/
theorem mixed_no (fv : Value) (a1 : Option Addr) (l1 : List Int) (n1 c1 : Nat) (v1 : Bool) (a2 : Option Addr) (l2 : List Int) (n2 c2 : Nat) (v2 : Bool) (w : World) (h1 : AA w a1 l1 n1 v1) (h2 : AA w a2 l2 n2 v2) (hv : (v1 && v2) = false) :
    Calls Tryd.prog 79 #[.agg #[.slice a1 n1 c1], .agg #[.slice a2 n2 c2], fv] w (RetErr w 50) := by
  cases v1 <;> cases v2
  all_goals
    (try simp at hv)
    try
      clear hv
      go_enter Tryd.func79, Tryd.ntmps79
      go_wp2_with (go_at_call 31; refine (Valid_e _ _ (by assumption) (by (repeat' (first | (with_reducible assumption) | (with_reducible exact Ext.refl _) | (with_reducible refine Ext.alloc ?_ _) | (with_reducible refine Ext.drew ?_) | (with_reducible refine Ext.drewN ?_ _) | (with_reducible refine Ext.setCell ?_ ?_ _) | (with_reducible refine Ext.trans ?_ (by assumption)) | go_size)))).mono ?_; rintro e w1 ⟨rfl, hb⟩; have hc := hb.cellE; have hf := hb.frozenE; have hz := hb.size; have ha := alloc_keeps w1; (try simp only [World.size_alloc] at hc hf hz); (try simp only [World.size_setCell] at hc hf hz); (try simp only [World.size_drew] at hc hf hz))
      ((try simp only [Exit.inBlock, Exit.then]); refine bodyPost_ret (v := .tuple #[.agg #[.slice none 0 0], .int .i64 50]) (by simp [results, Tryd.results79, go_sem, *]) rfl ?_)
      exact ⟨rfl, by (repeat' (first | (with_reducible assumption) | (with_reducible exact Ext.refl _) | (with_reducible refine Ext.alloc ?_ _) | (with_reducible refine Ext.drew ?_) | (with_reducible refine Ext.drewN ?_ _) | (with_reducible refine Ext.setCell ?_ ?_ _) | (with_reducible refine Ext.trans ?_ (by assumption)) | go_size))⟩

set_option maxHeartbeats 1000000 in
theorem Less_v {w1 w2 : World} {b1 o1 b2 o2 : Nat} (c1 c2 : Nat) {l1 l2 : List Int} (w : World) (h1 : VA w1 b1 o1 l1) (e1 : Ext w1 w) (h2 : VA w2 b2 o2 l2) (e2 : Ext w2 w) :
    Calls Tryd.prog 66 #[.agg #[.slice (some ⟨b1, o1, none⟩) 24 c1], .agg #[.slice (some ⟨b2, o2, none⟩) 24 c2]] w (RetV w (Globe.lessL l1 l2)) := by
  have H1 := Lib.hid (h1.ext e1)
  have H2 := Lib.hid (h2.ext e2)
  have HV := Lib.hid (Globe.less_valid (b := l2) h1.2)
  clear e1 e2 h1 h2
  go_enter Tryd.func66, Tryd.ntmps66
  go_wp2_with (go_at_call 79; refine (mixed_Less _ _ _ _ _ _ l1 l2 _ (fun i hi => Ext.cell (by (repeat' (first | (with_reducible assumption) | (with_reducible exact Ext.refl _) | (with_reducible refine Ext.alloc ?_ _) | (with_reducible refine Ext.drew ?_) | (with_reducible refine Ext.drewN ?_ _) | (with_reducible refine Ext.setCell ?_ ?_ _) | (with_reducible refine Ext.trans ?_ (by assumption)) | go_size))) (H1.out.1 i hi)) (fun i hi => Ext.cell (by (repeat' (first | (with_reducible assumption) | (with_reducible exact Ext.refl _) | (with_reducible refine Ext.alloc ?_ _) | (with_reducible refine Ext.drew ?_) | (with_reducible refine Ext.drewN ?_ _) | (with_reducible refine Ext.setCell ?_ ?_ _) | (with_reducible refine Ext.trans ?_ (by assumption)) | go_size))) (H2.out.1 i hi)) H1.out.2 H2.out.2).mono ?_; rintro e w1 ⟨B, rfl, hB, hr, hb⟩; have hc := hb.cellE; have hf := hb.frozenE; have hz := hb.size; have ha := alloc_keeps w1; (try simp only [World.size_alloc] at hc hf hz); (try simp only [World.size_setCell] at hc hf hz); (try simp only [World.size_drew] at hc hf hz))
  ((try simp only [Exit.inBlock, Exit.then]); refine bodyPost_ret (v := .tuple #[.agg #[.slice (some ⟨B, 0, none⟩) 24 24], .int .i64 0]) (by simp [results, Tryd.results66, go_sem, hc]) rfl ?_)
  refine RetAE.v ⟨B, rfl, by first | (simp at hB; omega) | omega, hr.other (by show w.heap.size + 1 + 1 ≠ B; (try simp at hB); omega) _, by (repeat' (first | (with_reducible assumption) | (with_reducible exact Ext.refl _) | (with_reducible refine Ext.alloc ?_ _) | (with_reducible refine Ext.drew ?_) | (with_reducible refine Ext.drewN ?_ _) | (with_reducible refine Ext.setCell ?_ ?_ _) | (with_reducible refine Ext.trans ?_ (by assumption)) | go_size))⟩ HV.out
set_option maxHeartbeats 1000000 in
theorem Less_n (a1 : Option Addr) (l1 : List Int) (n1 c1 : Nat) (v1 : Bool) (a2 : Option Addr) (l2 : List Int) (n2 c2 : Nat) (v2 : Bool) (w : World) (h1 : AA w a1 l1 n1 v1) (h2 : AA w a2 l2 n2 v2) (hv : (v1 && v2) = false) :
    Calls Tryd.prog 66 #[.agg #[.slice a1 n1 c1], .agg #[.slice a2 n2 c2]] w (RetErr w 50) := by
  go_enter Tryd.func66, Tryd.ntmps66
  go_wp2_with (go_at_call 79; refine (mixed_no _ _ l1 _ _ v1 _ l2 _ _ v2 _ (h1.ext (by (repeat' (first | (with_reducible assumption) | (with_reducible exact Ext.refl _) | (with_reducible refine Ext.alloc ?_ _) | (with_reducible refine Ext.drew ?_) | (with_reducible refine Ext.drewN ?_ _) | (with_reducible refine Ext.setCell ?_ ?_ _) | (with_reducible refine Ext.trans ?_ (by assumption)) | go_size)))) (h2.ext (by (repeat' (first | (with_reducible assumption) | (with_reducible exact Ext.refl _) | (with_reducible refine Ext.alloc ?_ _) | (with_reducible refine Ext.drew ?_) | (with_reducible refine Ext.drewN ?_ _) | (with_reducible refine Ext.setCell ?_ ?_ _) | (with_reducible refine Ext.trans ?_ (by assumption)) | go_size)))) hv).mono ?_; rintro e w1 ⟨rfl, hb⟩; have hc := hb.cellE; have hf := hb.frozenE; have hz := hb.size; have ha := alloc_keeps w1; (try simp only [World.size_alloc] at hc hf hz); (try simp only [World.size_setCell] at hc hf hz); (try simp only [World.size_drew] at hc hf hz))
  ((try simp only [Exit.inBlock, Exit.then]); refine bodyPost_ret (v := .tuple #[.agg #[.slice none 0 0], .int .i64 50]) (by simp [results, Tryd.results66, go_sem, hc]) rfl ?_)
  exact ⟨rfl, by (repeat' (first | (with_reducible assumption) | (with_reducible exact Ext.refl _) | (with_reducible refine Ext.alloc ?_ _) | (with_reducible refine Ext.drew ?_) | (with_reducible refine Ext.drewN ?_ _) | (with_reducible refine Ext.setCell ?_ ?_ _) | (with_reducible refine Ext.trans ?_ (by assumption)) | go_size))⟩
/-- By how many columns, within a turn. -/
def modN (k : Int) : Nat := (k % 48).toNat
theorem modN_go (k : Int) : k.tmod 48 % 48 = (modN k : Int) ∧ -47 ≤ k.tmod 48 ∧ k.tmod 48 ≤ 47 := by
  unfold modN
  by_cases h : 0 ≤ k
  · rw [Int.tmod_eq_emod_of_nonneg h]; omega
  · obtain ⟨m, rfl⟩ : ∃ m : Int, k = -m := ⟨-k, by omega⟩
    rw [Int.neg_tmod, Int.tmod_eq_emod_of_nonneg (by omega)]; omega

end Go.Proofs.YtdjjkhefdalokaaDoor

/- Contracts of package globe: Contains. -/
namespace Go.Proofs.YtdjjkhefdalokaaDoor
open Go.RowKit

theorem arrayAt_c (B k : Nat) (w : World) : (Instr.arrayAt 112 (.slice (some ⟨B, 0, none⟩) 24 k)).run Tryd.prog w = .ok (.pointer (some ⟨B, 0, none⟩)) w := by kernel_rfl
theorem eql24 {L : List Int} (hL : L.length = 24) (w : World) : (Op.equalIn 10000 112 (.agg (intVals L).toArray) (.agg #[.int .i64 0, .int .i64 0, .int .i64 0, .int .i64 0, .int .i64 0, .int .i64 0, .int .i64 0, .int .i64 0, .int .i64 0, .int .i64 0, .int .i64 0, .int .i64 0, .int .i64 0, .int .i64 0, .int .i64 0, .int .i64 0, .int .i64 0, .int .i64 0, .int .i64 0, .int .i64 0, .int .i64 0, .int .i64 0, .int .i64 0, .int .i64 0])).run Tryd.prog w = .ok (decide (L = Globe.zeroL)) w :=
  equalIn_rows (P := Tryd.prog) 112 3 Tryd.underlying112 (by kernel_rfl) (by kernel_rfl) (by kernel_rfl) Tryd.underlying3 L hL w
theorem size24 {L : List Int} (hL : L.length = 24) : (Tryd.prog.info? 112).map (·.size) = some (intVals L).length := by rw [show (intVals L).length = 24 by simp [intVals, hL]]; kernel_rfl

set_option maxHeartbeats 1000000 in
theorem Contains_v {w1 w2 : World} {b1 o1 b2 o2 : Nat} (c1 c2 : Nat) {l1 l2 : List Int} (w : World) (h1 : VA w1 b1 o1 l1) (e1 : Ext w1 w) (h2 : VA w2 b2 o2 l2) (e2 : Ext w2 w) :
    Calls Tryd.prog 44 #[.agg #[.slice (some ⟨b1, o1, none⟩) 24 c1], .agg #[.slice (some ⟨b2, o2, none⟩) 24 c2]] w fun e w' => e = .returned (.bool (Globe.containsB l1 l2)) ∧ Ext w w' := by
  replace h1 := h1.ext e1
  replace h2 := h2.ext e2
  clear e1 e2
  have hr : Globe.containsB l1 l2 = decide (Globe.lessL l2 l1 = Globe.zeroL) := by rw [Globe.containsB, h1.2, h2.2]; rfl
  have Hr := Lib.hid hr; clear hr
  have ha1 := arrayAt_c
  have hL : (Globe.lessL l2 l1).length = 24 := Globe.rowsF_len _
  have heq := @eql24 (Globe.lessL l2 l1) hL
  have HL := Lib.hid hL; clear hL
  go_enter Tryd.func44, Tryd.ntmps44
  go_wp2_with (first | (go_at_call 66; refine (Less_v _ _ _ h2 (by (repeat' (first | (with_reducible assumption) | (with_reducible exact Ext.refl _) | (with_reducible refine Ext.alloc ?_ _) | (with_reducible refine Ext.drew ?_) | (with_reducible refine Ext.drewN ?_ _) | (with_reducible refine Ext.setCell ?_ ?_ _) | (with_reducible refine Ext.trans ?_ (by assumption)) | go_size))) h1 (by (repeat' (first | (with_reducible assumption) | (with_reducible exact Ext.refl _) | (with_reducible refine Ext.alloc ?_ _) | (with_reducible refine Ext.drew ?_) | (with_reducible refine Ext.drewN ?_ _) | (with_reducible refine Ext.setCell ?_ ?_ _) | (with_reducible refine Ext.trans ?_ (by assumption)) | go_size)))).mono ?_; rintro e w1 ⟨B, k, rfl, hB, hr, hv, hb⟩; have hc := hb.cellE; have hf := hb.frozenE; have hz := hb.size; have ha := alloc_keeps w1; (try simp only [World.size_alloc] at hc hf hz); (try simp only [World.size_setCell] at hc hf hz); (try simp only [World.size_drew] at hc hf hz); have hrg := (hr.ext (Ext.alloc (Ext.refl _) (.cells #[.slice (some ⟨B, 0, none⟩) 24 k] 39))).range; clear hr hv) | (refine wpList_load_g (op := ⟨some 19, Op.load 112 (Operand.tmp 18), _, _, _, _⟩) (by kernel_rfl) 112 (Operand.tmp 18) rfl _ 0 rfl _ (.array 24 3) hrg Tryd.underlying112 rfl (size24 HL.out) ?_))
  go_ret
  exact ⟨ret_bool Hr.out.symm, by (repeat' (first | (with_reducible assumption) | (with_reducible exact Ext.refl _) | (with_reducible refine Ext.alloc ?_ _) | (with_reducible refine Ext.drew ?_) | (with_reducible refine Ext.drewN ?_ _) | (with_reducible refine Ext.setCell ?_ ?_ _) | (with_reducible refine Ext.trans ?_ (by assumption)) | go_size))⟩
set_option maxHeartbeats 1000000 in
theorem Contains_n (a1 : Option Addr) (l1 : List Int) (n1 c1 : Nat) (v1 : Bool) (a2 : Option Addr) (l2 : List Int) (n2 c2 : Nat) (v2 : Bool) (w : World) (h1 : AA w a1 l1 n1 v1) (h2 : AA w a2 l2 n2 v2) (hv : (v1 && v2) = false) :
    Calls Tryd.prog 44 #[.agg #[.slice a1 n1 c1], .agg #[.slice a2 n2 c2]] w fun e w' => e = .returned (.bool false) ∧ Ext w w' := by
  have hv' : (v2 && v1) = false := by rw [Bool.and_comm]; exact hv
  clear hv
  go_enter Tryd.func44, Tryd.ntmps44
  go_wp2_with (go_at_call 66; refine (Less_n _ l2 _ _ v2 _ l1 _ _ v1 _ (h2.ext (by (repeat' (first | (with_reducible assumption) | (with_reducible exact Ext.refl _) | (with_reducible refine Ext.alloc ?_ _) | (with_reducible refine Ext.drew ?_) | (with_reducible refine Ext.drewN ?_ _) | (with_reducible refine Ext.setCell ?_ ?_ _) | (with_reducible refine Ext.trans ?_ (by assumption)) | go_size)))) (h1.ext (by (repeat' (first | (with_reducible assumption) | (with_reducible exact Ext.refl _) | (with_reducible refine Ext.alloc ?_ _) | (with_reducible refine Ext.drew ?_) | (with_reducible refine Ext.drewN ?_ _) | (with_reducible refine Ext.setCell ?_ ?_ _) | (with_reducible refine Ext.trans ?_ (by assumption)) | go_size)))) hv').mono ?_; rintro e w1 ⟨rfl, hb⟩; have hc := hb.cellE; have hf := hb.frozenE; have hz := hb.size; have ha := alloc_keeps w1; (try simp only [World.size_alloc] at hc hf hz); (try simp only [World.size_setCell] at hc hf hz); (try simp only [World.size_drew] at hc hf hz))
  go_ret
  exact ⟨rfl, by (repeat' (first | (with_reducible assumption) | (with_reducible exact Ext.refl _) | (with_reducible refine Ext.alloc ?_ _) | (with_reducible refine Ext.drew ?_) | (with_reducible refine Ext.drewN ?_ _) | (with_reducible refine Ext.setCell ?_ ?_ _) | (with_reducible refine Ext.trans ?_ (by assumption)) | go_size))⟩
theorem Contains_c {w1 w2 : World} {a1 : Option Addr} {l1 : List Int} {n1 : Nat} (c1 : Nat) {v1 : Bool} {a2 : Option Addr} {l2 : List Int} {n2 : Nat} (c2 : Nat) {v2 : Bool} (w : World) (h1 : AA w1 a1 l1 n1 v1) (e1 : Ext w1 w) (h2 : AA w2 a2 l2 n2 v2) (e2 : Ext w2 w) :
    Calls Tryd.prog 44 #[.agg #[.slice a1 n1 c1], .agg #[.slice a2 n2 c2]] w fun e w' => e = .returned (.bool (Globe.containsB l1 l2)) ∧ Ext w w' := by
  replace h1 := h1.ext e1
  replace h2 := h2.ext e2
  cases hq : (v1 && v2)
  · have hr : Globe.containsB l1 l2 = false := by rw [Globe.containsB, h1.2.2.2, h2.2.2.2, hq]; rfl
    rw [hr]
    exact Contains_n a1 l1 n1 c1 v1 a2 l2 n2 c2 v2 w h1 h2 hq
  · obtain ⟨rfl, rfl⟩ := Bool.and_eq_true_iff.1 hq
    obtain ⟨b1, o1, rfl, rfl, r1⟩ := h1.va
    obtain ⟨b2, o2, rfl, rfl, r2⟩ := h2.va
    exact Contains_v c1 c2 w r1 (Ext.refl _) r2 (Ext.refl _)

end Go.Proofs.YtdjjkhefdalokaaDoor

/- Contracts of package swath: Strip, Shown, Shows. -/
namespace Go.Proofs.YtdjjkhefdalokaaDoor
open Go.RowKit

/-- A new strip of one's own, and no error. -/
def RetSE (w : World) (L1 L2 : List Int) (e : Ending) (w' : World) : Prop :=
  ∃ B g c1 c2 : Nat, e = .returned (.tuple #[.agg #[.slice (some ⟨B, 0, none⟩) 24 c1, .slice (some ⟨g, 0, none⟩) 24 c2], .int .i64 0]) ∧ w.heap.size ≤ B ∧ w.heap.size ≤ g ∧ B ≠ g ∧ RowsAt w' B L1 ∧ RowsAt w' g L2 ∧ Ext w w'
def RetSN (w : World) (e : Ending) (w' : World) : Prop := e = .returned (.tuple #[.agg #[.slice none 0 0, .slice none 0 0], .int .i64 80]) ∧ Ext w w'
/-- May an exposure be asked for, with a delay? -/
def shdB (o : Orb) (s : Int × Int) (lk d : Int) : Bool := Swath.shB o s lk && Globe.inB d (-o.sl) o.sl
set_option maxRecDepth 1000000 in
set_option maxHeartbeats 4000000 in
theorem Strip_y {o : Orb} {s : Int × Int} {lk : Int} (w : World) (hv : Swath.shB o s lk = true) : Calls Tryd.prog 10 #[.agg #[.int .i64 o.p, .int .i64 o.f, .int .i64 o.lo, .int .i64 o.hi, .int .i64 o.nd, .int .i64 o.tn, .int .i64 o.sl], .agg #[.int .i64 s.1, .int .i64 s.2], .int .i64 lk] w (RetSE w (Swath.sureL o s lk) (Swath.canL o s lk)) := by
  refine calls_cw 21 [(2, .int .i64 (lk : Int)), (1, .agg #[.int .i64 (s.1 : Int), .int .i64 (s.2 : Int)]), (0, .agg #[.int .i64 (o.p : Int), .int .i64 (o.f : Int), .int .i64 (o.lo : Int), .int .i64 (o.hi : Int), .int .i64 (o.nd : Int), .int .i64 (o.tn : Int), .int .i64 (o.sl : Int)])] Tryd.func10 rfl Tryd.ntmps10 (by kernel_rfl) (by kernel_rfl) (fun L => ?_)
  have hE : Ext w w := Ext.refl w
  refine cw_seq ?_
  refine cw_plain ?_
  refine pl_step rfl (by kernel_rfl) (by kernel_rfl) (by kernel_rfl) (sn_new (us := #[.int .i64 (o.p : Int), .int .i64 (o.f : Int), .int .i64 (o.lo : Int), .int .i64 (o.hi : Int), .int .i64 (o.nd : Int), .int .i64 (o.tn : Int), .int .i64 (o.sl : Int)]) (t := 26) (by kernel_rfl) ?_)
  intro O1 X2 hO hOs hb hbx
  have hzO1 := hO; have hyO1 := hOs; clear hO hOs
  have bO1_0 : BoxAt X2 O1 0 (.int .i64 (o.p : Int)) := hbx 0 _ rfl
  have bO1_1 : BoxAt X2 O1 1 (.int .i64 (o.f : Int)) := hbx 1 _ rfl
  have bO1_2 : BoxAt X2 O1 2 (.int .i64 (o.lo : Int)) := hbx 2 _ rfl
  have bO1_3 : BoxAt X2 O1 3 (.int .i64 (o.hi : Int)) := hbx 3 _ rfl
  have bO1_4 : BoxAt X2 O1 4 (.int .i64 (o.nd : Int)) := hbx 4 _ rfl
  have bO1_5 : BoxAt X2 O1 5 (.int .i64 (o.tn : Int)) := hbx 5 _ rfl
  have bO1_6 : BoxAt X2 O1 6 (.int .i64 (o.sl : Int)) := hbx 6 _ rfl
  clear hbx
  replace hE := hE.trans hb
  have hs3 := hb.size
  clear hb
  have lt4 := bO1_0.lt
  refine pl_step rfl (by kernel_rfl) (by kernel_rfl) (by kernel_rfl) (sn_new (us := #[.int .i64 (s.1 : Int), .int .i64 (s.2 : Int)]) (t := 29) (by kernel_rfl) ?_)
  intro O5 X6 hO hOs hb hbx
  have hzO5 := hO; have hyO5 := hOs; clear hO hOs
  have bO5_0 : BoxAt X6 O5 0 (.int .i64 (s.1 : Int)) := hbx 0 _ rfl
  have bO5_1 : BoxAt X6 O5 1 (.int .i64 (s.2 : Int)) := hbx 1 _ rfl
  clear hbx
  replace hE := hE.trans hb
  replace bO1_0 := BoxAt.ext hb bO1_0
  replace bO1_1 := BoxAt.ext hb bO1_1
  replace bO1_2 := BoxAt.ext hb bO1_2
  replace bO1_3 := BoxAt.ext hb bO1_3
  replace bO1_4 := BoxAt.ext hb bO1_4
  replace bO1_5 := BoxAt.ext hb bO1_5
  replace bO1_6 := BoxAt.ext hb bO1_6
  have hs7 := hb.size
  clear hb
  have lt8 := bO5_0.lt
  refine pl_step rfl (by kernel_rfl) (by kernel_rfl) (by kernel_rfl) (sn_new (us := #[.int .i64 (lk : Int)]) (t := 3) (by kernel_rfl) ?_)
  intro O9 X10 hO hOs hb hbx
  have hzO9 := hO; have hyO9 := hOs; clear hO hOs
  have bO9_0 : BoxAt X10 O9 0 (.int .i64 (lk : Int)) := hbx 0 _ rfl
  clear hbx
  replace hE := hE.trans hb
  replace bO1_0 := BoxAt.ext hb bO1_0
  replace bO1_1 := BoxAt.ext hb bO1_1
  replace bO1_2 := BoxAt.ext hb bO1_2
  replace bO1_3 := BoxAt.ext hb bO1_3
  replace bO1_4 := BoxAt.ext hb bO1_4
  replace bO1_5 := BoxAt.ext hb bO1_5
  replace bO1_6 := BoxAt.ext hb bO1_6
  replace bO5_0 := BoxAt.ext hb bO5_0
  replace bO5_1 := BoxAt.ext hb bO5_1
  have hs11 := hb.size
  clear hb
  have lt12 := bO9_0.lt
  refine pl_step rfl (by kernel_rfl) (by kernel_rfl) (by kernel_rfl) (sn_new (us := #[.slice none 0 0, .slice none 0 0]) (t := 43) (by kernel_rfl) ?_)
  intro O13 X14 hO hOs hb hbx
  have hzO13 := hO; have hyO13 := hOs; clear hO hOs
  have bO13_0 : BoxAt X14 O13 0 (.slice none 0 0) := hbx 0 _ rfl
  have bO13_1 : BoxAt X14 O13 1 (.slice none 0 0) := hbx 1 _ rfl
  clear hbx
  replace hE := hE.trans hb
  replace bO1_0 := BoxAt.ext hb bO1_0
  replace bO1_1 := BoxAt.ext hb bO1_1
  replace bO1_2 := BoxAt.ext hb bO1_2
  replace bO1_3 := BoxAt.ext hb bO1_3
  replace bO1_4 := BoxAt.ext hb bO1_4
  replace bO1_5 := BoxAt.ext hb bO1_5
  replace bO1_6 := BoxAt.ext hb bO1_6
  replace bO5_0 := BoxAt.ext hb bO5_0
  replace bO5_1 := BoxAt.ext hb bO5_1
  replace bO9_0 := BoxAt.ext hb bO9_0
  have hs15 := hb.size
  clear hb
  have lt16 := bO13_0.lt
  refine pl_take (.int .i64 0) rfl (by kernel_rfl) (by kernel_rfl) (by kernel_rfl) (by kernel_rfl) ?_
  refine pl_nil ?_
  refine qw_then ?_
  refine cw_seq ?_
  refine cw_seq ?_
  have hX17 : Ext X14 X14 := Ext.refl _
  refine cw_plain ?_
  refine pl_take (.agg #[.int .i64 (o.p : Int), .int .i64 (o.f : Int), .int .i64 (o.lo : Int), .int .i64 (o.hi : Int), .int .i64 (o.nd : Int), .int .i64 (o.tn : Int), .int .i64 (o.sl : Int)]) rfl (by kernel_rfl) (by kernel_rfl) (by kernel_rfl) (ex_load rfl (by kernel_rfl) (ld26 (bO1_0.1) (bO1_1.1) (bO1_2.1) (bO1_3.1) (bO1_4.1) (bO1_5.1) (bO1_6.1))) ?_
  refine pl_take (.agg #[.int .i64 (s.1 : Int), .int .i64 (s.2 : Int)]) rfl (by kernel_rfl) (by kernel_rfl) (by kernel_rfl) (ex_load rfl (by kernel_rfl) (ld29 (bO5_0.1) (bO5_1.1))) ?_
  refine pl_take (.int .i64 (lk : Int)) rfl (by kernel_rfl) (by kernel_rfl) (by kernel_rfl) (ex_load rfl (by kernel_rfl) (ld3 (bO9_0.1))) ?_
  refine pl_step rfl (by kernel_rfl) (by kernel_rfl) (by kernel_rfl) (sn_call (f := 19) (args := #[.agg #[.int .i64 (o.p : Int), .int .i64 (o.f : Int), .int .i64 (o.lo : Int), .int .i64 (o.hi : Int), .int .i64 (o.nd : Int), .int .i64 (o.tn : Int), .int .i64 (o.sl : Int)], .agg #[.int .i64 (s.1 : Int), .int .i64 (s.2 : Int)], .int .i64 (lk : Int)]) (by kernel_rfl) ((sValid_r (r := true) o s lk _ (hv)).mono ?_))
  rintro e w18 ⟨rfl, hb⟩
  replace hE := hE.trans hb
  replace hX17 := hX17.trans hb
  have hs19 := hb.size
  clear hb
  refine ⟨_, rfl, ?_⟩
  refine pl_take (.bool false) rfl (by kernel_rfl) (by kernel_rfl) (by kernel_rfl) (by kernel_rfl) ?_
  refine pl_nil ?_
  refine qw_then ?_
  refine cw_f (by kernel_rfl) ?_
  refine cw_skip ?_
  refine qw_then ?_
  refine cw_seq ?_
  refine cw_plain ?_
  refine pl_take (.func (.func 27) #[] #[.pointer (some ⟨O1, 0, none⟩), .pointer (some ⟨O5, 0, none⟩), .pointer (some ⟨O9, 0, none⟩)]) rfl (by kernel_rfl) (by kernel_rfl) (by kernel_rfl) (by kernel_rfl) ?_
  refine pl_take (.func (.func 27) #[] #[.pointer (some ⟨O1, 0, none⟩), .pointer (some ⟨O5, 0, none⟩), .pointer (some ⟨O9, 0, none⟩)]) rfl (by kernel_rfl) (by kernel_rfl) (by kernel_rfl) (by kernel_rfl) ?_
  refine pl_nil ?_
  refine qw_then ?_
  refine cw_clean [3, 6, 8] (ws' := [(3, .pointer (some ⟨O1, 0, none⟩)), (6, .pointer (some ⟨O13, 0, none⟩)), (8, .func (.func 27) #[] #[.pointer (some ⟨O1, 0, none⟩), .pointer (some ⟨O5, 0, none⟩), .pointer (some ⟨O9, 0, none⟩)])]) (by kernel_rfl) (fun L => ?_)
  refine cw_seq ?_
  refine cw_plain ?_
  refine pl_take (.func (.func 28) #[] #[]) rfl (by kernel_rfl) (by kernel_rfl) (by kernel_rfl) (by kernel_rfl) ?_
  refine pl_nil ?_
  refine qw_then ?_
  refine cw_seq ?_
  refine cw_plain ?_
  refine pl_take (.agg #[.int .i64 (o.p : Int), .int .i64 (o.f : Int), .int .i64 (o.lo : Int), .int .i64 (o.hi : Int), .int .i64 (o.nd : Int), .int .i64 (o.tn : Int), .int .i64 (o.sl : Int)]) rfl (by kernel_rfl) (by kernel_rfl) (by kernel_rfl) (ex_load rfl (by kernel_rfl) (ld26 ((BoxAt.ext hX17 bO1_0).1) ((BoxAt.ext hX17 bO1_1).1) ((BoxAt.ext hX17 bO1_2).1) ((BoxAt.ext hX17 bO1_3).1) ((BoxAt.ext hX17 bO1_4).1) ((BoxAt.ext hX17 bO1_5).1) ((BoxAt.ext hX17 bO1_6).1))) ?_
  refine pl_take (.func (.func 27) #[] #[.pointer (some ⟨O1, 0, none⟩), .pointer (some ⟨O5, 0, none⟩), .pointer (some ⟨O9, 0, none⟩)]) rfl (by kernel_rfl) (by kernel_rfl) (by kernel_rfl) (by kernel_rfl) ?_
  refine pl_take (.func (.func 28) #[] #[]) rfl (by kernel_rfl) (by kernel_rfl) (by kernel_rfl) (by kernel_rfl) ?_
  refine pl_step rfl (by kernel_rfl) (by kernel_rfl) (by kernel_rfl) (sn_call (f := 29) (args := #[.agg #[.int .i64 (o.p : Int), .int .i64 (o.f : Int), .int .i64 (o.lo : Int), .int .i64 (o.hi : Int), .int .i64 (o.nd : Int), .int .i64 (o.tn : Int), .int .i64 (o.sl : Int)], .func (.func 27) #[] #[.pointer (some ⟨O1, 0, none⟩), .pointer (some ⟨O5, 0, none⟩), .pointer (some ⟨O9, 0, none⟩)], .func (.func 30) #[] #[], .func (.func 28) #[] #[]]) (by kernel_rfl) ((foldS_c _ ⟨⟨(BoxAt.ext hX17 bO1_0).1, (BoxAt.ext hX17 bO1_1).1, (BoxAt.ext hX17 bO1_2).1, (BoxAt.ext hX17 bO1_3).1, (BoxAt.ext hX17 bO1_4).1, (BoxAt.ext hX17 bO1_5).1, (BoxAt.ext hX17 bO1_6).1⟩, (BoxAt.ext hX17 bO5_0).1, (BoxAt.ext hX17 bO5_1).1, (BoxAt.ext hX17 bO9_0).1⟩ (Ext.refl _) hv).mono ?_))
  rintro e w29 ⟨B20, g21, k22, k23, rfl, hn24, hn25, hne26, hr27, hr28, hb⟩
  replace hE := hE.trans hb
  replace hX17 := hX17.trans hb
  have hs30 := hb.size
  clear hb
  have lt31 := hr27.lt
  have lt32 := hr28.lt
  have hne26h := Lib.hid hne26
  refine ⟨_, rfl, ?_⟩
  have bO1_t34 := (BoxAt.ext hX17 bO1_0)
  have bO1_t35 := (BoxAt.ext hX17 bO1_1)
  have bO1_t36 := (BoxAt.ext hX17 bO1_2)
  have bO1_t37 := (BoxAt.ext hX17 bO1_3)
  have bO1_t38 := (BoxAt.ext hX17 bO1_4)
  have bO1_t39 := (BoxAt.ext hX17 bO1_5)
  have bO1_t40 := (BoxAt.ext hX17 bO1_6)
  have bO5_t41 := (BoxAt.ext hX17 bO5_0)
  have bO5_t42 := (BoxAt.ext hX17 bO5_1)
  have bO9_t43 := (BoxAt.ext hX17 bO9_0)
  have bO13_t44 := (BoxAt.ext hX17 bO13_0)
  have bO13_t45 := (BoxAt.ext hX17 bO13_1)
  refine pl_put rfl (by kernel_rfl) (by kernel_rfl) (sn_set2 (O := O13) (j := 0) (v := .slice (some ⟨B20, 0, none⟩) 24 k22) (v' := .slice (some ⟨g21, 0, none⟩) 24 k23) (ex_store (p := .pointer (some ⟨O13, 0, none⟩)) (v := .agg #[.slice (some ⟨B20, 0, none⟩) 24 k22, .slice (some ⟨g21, 0, none⟩) 24 k23]) rfl (by kernel_rfl) (by kernel_rfl) (st43 bO13_t44.1 bO13_t44.2 bO13_t45.1 bO13_t45.2)) bO13_t44 bO13_t45 ?_)
  intro X33 ho hv0 hv1 hk
  replace hE := ho.ext hE (Nat.le_trans (Nat.le_trans hs3 (Nat.le_trans hs7 hs11)) (Nat.le_of_eq hzO13))
  replace bO1_t34 := ho.box (Nat.ne_of_gt (Nat.lt_of_lt_of_le lt4 (Nat.le_trans (Nat.le_trans hs7 hs11) (Nat.le_of_eq hzO13)))) bO1_t34
  replace bO1_t35 := ho.box (Nat.ne_of_gt (Nat.lt_of_lt_of_le lt4 (Nat.le_trans (Nat.le_trans hs7 hs11) (Nat.le_of_eq hzO13)))) bO1_t35
  replace bO1_t36 := ho.box (Nat.ne_of_gt (Nat.lt_of_lt_of_le lt4 (Nat.le_trans (Nat.le_trans hs7 hs11) (Nat.le_of_eq hzO13)))) bO1_t36
  replace bO1_t37 := ho.box (Nat.ne_of_gt (Nat.lt_of_lt_of_le lt4 (Nat.le_trans (Nat.le_trans hs7 hs11) (Nat.le_of_eq hzO13)))) bO1_t37
  replace bO1_t38 := ho.box (Nat.ne_of_gt (Nat.lt_of_lt_of_le lt4 (Nat.le_trans (Nat.le_trans hs7 hs11) (Nat.le_of_eq hzO13)))) bO1_t38
  replace bO1_t39 := ho.box (Nat.ne_of_gt (Nat.lt_of_lt_of_le lt4 (Nat.le_trans (Nat.le_trans hs7 hs11) (Nat.le_of_eq hzO13)))) bO1_t39
  replace bO1_t40 := ho.box (Nat.ne_of_gt (Nat.lt_of_lt_of_le lt4 (Nat.le_trans (Nat.le_trans hs7 hs11) (Nat.le_of_eq hzO13)))) bO1_t40
  replace bO5_t41 := ho.box (Nat.ne_of_gt (Nat.lt_of_lt_of_le lt8 (Nat.le_trans hs11 (Nat.le_of_eq hzO13)))) bO5_t41
  replace bO5_t42 := ho.box (Nat.ne_of_gt (Nat.lt_of_lt_of_le lt8 (Nat.le_trans hs11 (Nat.le_of_eq hzO13)))) bO5_t42
  replace bO9_t43 := ho.box (Nat.ne_of_gt (Nat.lt_of_lt_of_le lt12 (Nat.le_of_eq hzO13))) bO9_t43
  replace hr27 := ho.rows (Nat.ne_of_lt (Nat.lt_of_lt_of_le lt16 (Nat.le_trans hs19 hn24))) hr27
  replace hr28 := ho.rows (Nat.ne_of_lt (Nat.lt_of_lt_of_le lt16 (Nat.le_trans hs19 hn25))) hr28
  have hs46 : w29.heap.size ≤ X33.heap.size := Nat.le_of_eq ho.size.symm
  clear ho hk bO13_t44 bO13_t45
  have bO13_t44 := hv0; clear hv0
  have bO13_t45 := hv1; clear hv1
  refine pl_take (.int .i64 0) rfl (by kernel_rfl) (by kernel_rfl) (by kernel_rfl) (by kernel_rfl) ?_
  refine pl_nil ?_
  refine qw_then ?_
  refine cw_ret ?_
  refine qw_ret [.agg #[.slice (some ⟨B20, 0, none⟩) 24 k22, .slice (some ⟨g21, 0, none⟩) 24 k23], .int .i64 0] rfl ⟨⟨_, by kernel_rfl, res_ld (ld43 (bO13_t44.1) (bO13_t45.1))⟩, (by kernel_rfl), trivial⟩ ?_
  exact ⟨B20, g21, _, _, rfl, (Nat.le_trans (Nat.le_trans hs3 (Nat.le_trans hs7 (Nat.le_trans hs11 (Nat.le_trans hs15 hs19)))) hn24), (Nat.le_trans (Nat.le_trans hs3 (Nat.le_trans hs7 (Nat.le_trans hs11 (Nat.le_trans hs15 hs19)))) hn25), hne26h.out, hr27, hr28, hE⟩
set_option maxRecDepth 1000000 in
set_option maxHeartbeats 4000000 in
theorem Strip_n {o : Orb} {s : Int × Int} {lk : Int} (w : World) (hv : Swath.shB o s lk = false) : Calls Tryd.prog 10 #[.agg #[.int .i64 o.p, .int .i64 o.f, .int .i64 o.lo, .int .i64 o.hi, .int .i64 o.nd, .int .i64 o.tn, .int .i64 o.sl], .agg #[.int .i64 s.1, .int .i64 s.2], .int .i64 lk] w (RetSN w) := by
  refine calls_cw 21 [(2, .int .i64 (lk : Int)), (1, .agg #[.int .i64 (s.1 : Int), .int .i64 (s.2 : Int)]), (0, .agg #[.int .i64 (o.p : Int), .int .i64 (o.f : Int), .int .i64 (o.lo : Int), .int .i64 (o.hi : Int), .int .i64 (o.nd : Int), .int .i64 (o.tn : Int), .int .i64 (o.sl : Int)])] Tryd.func10 rfl Tryd.ntmps10 (by kernel_rfl) (by kernel_rfl) (fun L => ?_)
  have hE : Ext w w := Ext.refl w
  refine cw_seq ?_
  refine cw_plain ?_
  refine pl_step rfl (by kernel_rfl) (by kernel_rfl) (by kernel_rfl) (sn_new (us := #[.int .i64 (o.p : Int), .int .i64 (o.f : Int), .int .i64 (o.lo : Int), .int .i64 (o.hi : Int), .int .i64 (o.nd : Int), .int .i64 (o.tn : Int), .int .i64 (o.sl : Int)]) (t := 26) (by kernel_rfl) ?_)
  intro O1 X2 hO hOs hb hbx
  have hzO1 := hO; have hyO1 := hOs; clear hO hOs
  have bO1_0 : BoxAt X2 O1 0 (.int .i64 (o.p : Int)) := hbx 0 _ rfl
  have bO1_1 : BoxAt X2 O1 1 (.int .i64 (o.f : Int)) := hbx 1 _ rfl
  have bO1_2 : BoxAt X2 O1 2 (.int .i64 (o.lo : Int)) := hbx 2 _ rfl
  have bO1_3 : BoxAt X2 O1 3 (.int .i64 (o.hi : Int)) := hbx 3 _ rfl
  have bO1_4 : BoxAt X2 O1 4 (.int .i64 (o.nd : Int)) := hbx 4 _ rfl
  have bO1_5 : BoxAt X2 O1 5 (.int .i64 (o.tn : Int)) := hbx 5 _ rfl
  have bO1_6 : BoxAt X2 O1 6 (.int .i64 (o.sl : Int)) := hbx 6 _ rfl
  clear hbx
  replace hE := hE.trans hb
  have hs3 := hb.size
  clear hb
  have lt4 := bO1_0.lt
  refine pl_step rfl (by kernel_rfl) (by kernel_rfl) (by kernel_rfl) (sn_new (us := #[.int .i64 (s.1 : Int), .int .i64 (s.2 : Int)]) (t := 29) (by kernel_rfl) ?_)
  intro O5 X6 hO hOs hb hbx
  have hzO5 := hO; have hyO5 := hOs; clear hO hOs
  have bO5_0 : BoxAt X6 O5 0 (.int .i64 (s.1 : Int)) := hbx 0 _ rfl
  have bO5_1 : BoxAt X6 O5 1 (.int .i64 (s.2 : Int)) := hbx 1 _ rfl
  clear hbx
  replace hE := hE.trans hb
  replace bO1_0 := BoxAt.ext hb bO1_0
  replace bO1_1 := BoxAt.ext hb bO1_1
  replace bO1_2 := BoxAt.ext hb bO1_2
  replace bO1_3 := BoxAt.ext hb bO1_3
  replace bO1_4 := BoxAt.ext hb bO1_4
  replace bO1_5 := BoxAt.ext hb bO1_5
  replace bO1_6 := BoxAt.ext hb bO1_6
  have hs7 := hb.size
  clear hb
  have lt8 := bO5_0.lt
  refine pl_step rfl (by kernel_rfl) (by kernel_rfl) (by kernel_rfl) (sn_new (us := #[.int .i64 (lk : Int)]) (t := 3) (by kernel_rfl) ?_)
  intro O9 X10 hO hOs hb hbx
  have hzO9 := hO; have hyO9 := hOs; clear hO hOs
  have bO9_0 : BoxAt X10 O9 0 (.int .i64 (lk : Int)) := hbx 0 _ rfl
  clear hbx
  replace hE := hE.trans hb
  replace bO1_0 := BoxAt.ext hb bO1_0
  replace bO1_1 := BoxAt.ext hb bO1_1
  replace bO1_2 := BoxAt.ext hb bO1_2
  replace bO1_3 := BoxAt.ext hb bO1_3
  replace bO1_4 := BoxAt.ext hb bO1_4
  replace bO1_5 := BoxAt.ext hb bO1_5
  replace bO1_6 := BoxAt.ext hb bO1_6
  replace bO5_0 := BoxAt.ext hb bO5_0
  replace bO5_1 := BoxAt.ext hb bO5_1
  have hs11 := hb.size
  clear hb
  have lt12 := bO9_0.lt
  refine pl_step rfl (by kernel_rfl) (by kernel_rfl) (by kernel_rfl) (sn_new (us := #[.slice none 0 0, .slice none 0 0]) (t := 43) (by kernel_rfl) ?_)
  intro O13 X14 hO hOs hb hbx
  have hzO13 := hO; have hyO13 := hOs; clear hO hOs
  have bO13_0 : BoxAt X14 O13 0 (.slice none 0 0) := hbx 0 _ rfl
  have bO13_1 : BoxAt X14 O13 1 (.slice none 0 0) := hbx 1 _ rfl
  clear hbx
  replace hE := hE.trans hb
  replace bO1_0 := BoxAt.ext hb bO1_0
  replace bO1_1 := BoxAt.ext hb bO1_1
  replace bO1_2 := BoxAt.ext hb bO1_2
  replace bO1_3 := BoxAt.ext hb bO1_3
  replace bO1_4 := BoxAt.ext hb bO1_4
  replace bO1_5 := BoxAt.ext hb bO1_5
  replace bO1_6 := BoxAt.ext hb bO1_6
  replace bO5_0 := BoxAt.ext hb bO5_0
  replace bO5_1 := BoxAt.ext hb bO5_1
  replace bO9_0 := BoxAt.ext hb bO9_0
  have hs15 := hb.size
  clear hb
  have lt16 := bO13_0.lt
  refine pl_take (.int .i64 0) rfl (by kernel_rfl) (by kernel_rfl) (by kernel_rfl) (by kernel_rfl) ?_
  refine pl_nil ?_
  refine qw_then ?_
  refine cw_seq ?_
  refine cw_seq ?_
  have hX17 : Ext X14 X14 := Ext.refl _
  refine cw_plain ?_
  refine pl_take (.agg #[.int .i64 (o.p : Int), .int .i64 (o.f : Int), .int .i64 (o.lo : Int), .int .i64 (o.hi : Int), .int .i64 (o.nd : Int), .int .i64 (o.tn : Int), .int .i64 (o.sl : Int)]) rfl (by kernel_rfl) (by kernel_rfl) (by kernel_rfl) (ex_load rfl (by kernel_rfl) (ld26 (bO1_0.1) (bO1_1.1) (bO1_2.1) (bO1_3.1) (bO1_4.1) (bO1_5.1) (bO1_6.1))) ?_
  refine pl_take (.agg #[.int .i64 (s.1 : Int), .int .i64 (s.2 : Int)]) rfl (by kernel_rfl) (by kernel_rfl) (by kernel_rfl) (ex_load rfl (by kernel_rfl) (ld29 (bO5_0.1) (bO5_1.1))) ?_
  refine pl_take (.int .i64 (lk : Int)) rfl (by kernel_rfl) (by kernel_rfl) (by kernel_rfl) (ex_load rfl (by kernel_rfl) (ld3 (bO9_0.1))) ?_
  refine pl_step rfl (by kernel_rfl) (by kernel_rfl) (by kernel_rfl) (sn_call (f := 19) (args := #[.agg #[.int .i64 (o.p : Int), .int .i64 (o.f : Int), .int .i64 (o.lo : Int), .int .i64 (o.hi : Int), .int .i64 (o.nd : Int), .int .i64 (o.tn : Int), .int .i64 (o.sl : Int)], .agg #[.int .i64 (s.1 : Int), .int .i64 (s.2 : Int)], .int .i64 (lk : Int)]) (by kernel_rfl) ((sValid_r (r := false) o s lk _ (hv)).mono ?_))
  rintro e w18 ⟨rfl, hb⟩
  replace hE := hE.trans hb
  replace hX17 := hX17.trans hb
  have hs19 := hb.size
  clear hb
  refine ⟨_, rfl, ?_⟩
  refine pl_take (.bool true) rfl (by kernel_rfl) (by kernel_rfl) (by kernel_rfl) (by kernel_rfl) ?_
  refine pl_nil ?_
  refine qw_then ?_
  refine cw_t (by kernel_rfl) ?_
  refine cw_seq ?_
  refine cw_plain ?_
  refine pl_take (.agg #[.slice none 0 0, .slice none 0 0]) rfl (by kernel_rfl) (by kernel_rfl) (by kernel_rfl) (by kernel_rfl) ?_
  have bO1_t21 := (BoxAt.ext hX17 bO1_0)
  have bO1_t22 := (BoxAt.ext hX17 bO1_1)
  have bO1_t23 := (BoxAt.ext hX17 bO1_2)
  have bO1_t24 := (BoxAt.ext hX17 bO1_3)
  have bO1_t25 := (BoxAt.ext hX17 bO1_4)
  have bO1_t26 := (BoxAt.ext hX17 bO1_5)
  have bO1_t27 := (BoxAt.ext hX17 bO1_6)
  have bO5_t28 := (BoxAt.ext hX17 bO5_0)
  have bO5_t29 := (BoxAt.ext hX17 bO5_1)
  have bO9_t30 := (BoxAt.ext hX17 bO9_0)
  have bO13_t31 := (BoxAt.ext hX17 bO13_0)
  have bO13_t32 := (BoxAt.ext hX17 bO13_1)
  refine pl_put rfl (by kernel_rfl) (by kernel_rfl) (sn_set2 (O := O13) (j := 0) (v := .slice none 0 0) (v' := .slice none 0 0) (ex_store (p := .pointer (some ⟨O13, 0, none⟩)) (v := .agg #[.slice none 0 0, .slice none 0 0]) rfl (by kernel_rfl) (by kernel_rfl) (st43 bO13_t31.1 bO13_t31.2 bO13_t32.1 bO13_t32.2)) bO13_t31 bO13_t32 ?_)
  intro X20 ho hv0 hv1 hk
  replace hE := ho.ext hE (Nat.le_trans (Nat.le_trans hs3 (Nat.le_trans hs7 hs11)) (Nat.le_of_eq hzO13))
  replace bO1_t21 := ho.box (Nat.ne_of_gt (Nat.lt_of_lt_of_le lt4 (Nat.le_trans (Nat.le_trans hs7 hs11) (Nat.le_of_eq hzO13)))) bO1_t21
  replace bO1_t22 := ho.box (Nat.ne_of_gt (Nat.lt_of_lt_of_le lt4 (Nat.le_trans (Nat.le_trans hs7 hs11) (Nat.le_of_eq hzO13)))) bO1_t22
  replace bO1_t23 := ho.box (Nat.ne_of_gt (Nat.lt_of_lt_of_le lt4 (Nat.le_trans (Nat.le_trans hs7 hs11) (Nat.le_of_eq hzO13)))) bO1_t23
  replace bO1_t24 := ho.box (Nat.ne_of_gt (Nat.lt_of_lt_of_le lt4 (Nat.le_trans (Nat.le_trans hs7 hs11) (Nat.le_of_eq hzO13)))) bO1_t24
  replace bO1_t25 := ho.box (Nat.ne_of_gt (Nat.lt_of_lt_of_le lt4 (Nat.le_trans (Nat.le_trans hs7 hs11) (Nat.le_of_eq hzO13)))) bO1_t25
  replace bO1_t26 := ho.box (Nat.ne_of_gt (Nat.lt_of_lt_of_le lt4 (Nat.le_trans (Nat.le_trans hs7 hs11) (Nat.le_of_eq hzO13)))) bO1_t26
  replace bO1_t27 := ho.box (Nat.ne_of_gt (Nat.lt_of_lt_of_le lt4 (Nat.le_trans (Nat.le_trans hs7 hs11) (Nat.le_of_eq hzO13)))) bO1_t27
  replace bO5_t28 := ho.box (Nat.ne_of_gt (Nat.lt_of_lt_of_le lt8 (Nat.le_trans hs11 (Nat.le_of_eq hzO13)))) bO5_t28
  replace bO5_t29 := ho.box (Nat.ne_of_gt (Nat.lt_of_lt_of_le lt8 (Nat.le_trans hs11 (Nat.le_of_eq hzO13)))) bO5_t29
  replace bO9_t30 := ho.box (Nat.ne_of_gt (Nat.lt_of_lt_of_le lt12 (Nat.le_of_eq hzO13))) bO9_t30
  have hs33 : w18.heap.size ≤ X20.heap.size := Nat.le_of_eq ho.size.symm
  clear ho hk bO13_t31 bO13_t32
  have bO13_t31 := hv0; clear hv0
  have bO13_t32 := hv1; clear hv1
  refine pl_take (.int .i64 80) rfl (by kernel_rfl) (by kernel_rfl) (by kernel_rfl) (by kernel_rfl) ?_
  refine pl_nil ?_
  refine qw_then ?_
  refine cw_ret ?_
  refine qw_then_ret ?_
  refine qw_ret [.agg #[.slice none 0 0, .slice none 0 0], .int .i64 80] rfl ⟨⟨_, by kernel_rfl, res_ld (ld43 (bO13_t31.1) (bO13_t32.1))⟩, (by kernel_rfl), trivial⟩ ?_
  exact ⟨rfl, hE⟩
set_option maxRecDepth 1000000 in
set_option maxHeartbeats 4000000 in
theorem Shown_y {o : Orb} {s : Int × Int} {lk d : Int} (w : World) (hd8 : shdB o s lk d = true) : Calls Tryd.prog 9 #[.agg #[.int .i64 o.p, .int .i64 o.f, .int .i64 o.lo, .int .i64 o.hi, .int .i64 o.nd, .int .i64 o.tn, .int .i64 o.sl], .agg #[.int .i64 s.1, .int .i64 s.2], .int .i64 lk, .int .i64 d] w (RetAE w (Swath.showL o lk (s.1 - d) (s.2 - s.1).toNat)) := by
  obtain ⟨hv, hd9⟩ := Bool.and_eq_true_iff.1 hd8
  have hq0 := Orb.ok_t.1 (Swath.shB_t.1 hv).1
  refine calls_cw 31 [(3, .int .i64 (d : Int)), (2, .int .i64 (lk : Int)), (1, .agg #[.int .i64 (s.1 : Int), .int .i64 (s.2 : Int)]), (0, .agg #[.int .i64 (o.p : Int), .int .i64 (o.f : Int), .int .i64 (o.lo : Int), .int .i64 (o.hi : Int), .int .i64 (o.nd : Int), .int .i64 (o.tn : Int), .int .i64 (o.sl : Int)])] Tryd.func9 rfl Tryd.ntmps9 (by kernel_rfl) (by kernel_rfl) (fun L => ?_)
  have hE : Ext w w := Ext.refl w
  refine cw_seq ?_
  refine cw_plain ?_
  refine pl_step rfl (by kernel_rfl) (by kernel_rfl) (by kernel_rfl) (sn_new (us := #[.int .i64 (o.p : Int), .int .i64 (o.f : Int), .int .i64 (o.lo : Int), .int .i64 (o.hi : Int), .int .i64 (o.nd : Int), .int .i64 (o.tn : Int), .int .i64 (o.sl : Int)]) (t := 26) (by kernel_rfl) ?_)
  intro O1 X2 hO hOs hb hbx
  have hzO1 := hO; have hyO1 := hOs; clear hO hOs
  have bO1_0 : BoxAt X2 O1 0 (.int .i64 (o.p : Int)) := hbx 0 _ rfl
  have bO1_1 : BoxAt X2 O1 1 (.int .i64 (o.f : Int)) := hbx 1 _ rfl
  have bO1_2 : BoxAt X2 O1 2 (.int .i64 (o.lo : Int)) := hbx 2 _ rfl
  have bO1_3 : BoxAt X2 O1 3 (.int .i64 (o.hi : Int)) := hbx 3 _ rfl
  have bO1_4 : BoxAt X2 O1 4 (.int .i64 (o.nd : Int)) := hbx 4 _ rfl
  have bO1_5 : BoxAt X2 O1 5 (.int .i64 (o.tn : Int)) := hbx 5 _ rfl
  have bO1_6 : BoxAt X2 O1 6 (.int .i64 (o.sl : Int)) := hbx 6 _ rfl
  clear hbx
  replace hE := hE.trans hb
  have hs3 := hb.size
  clear hb
  have lt4 := bO1_0.lt
  refine pl_step rfl (by kernel_rfl) (by kernel_rfl) (by kernel_rfl) (sn_new (us := #[.int .i64 (s.1 : Int), .int .i64 (s.2 : Int)]) (t := 29) (by kernel_rfl) ?_)
  intro O5 X6 hO hOs hb hbx
  have hzO5 := hO; have hyO5 := hOs; clear hO hOs
  have bO5_0 : BoxAt X6 O5 0 (.int .i64 (s.1 : Int)) := hbx 0 _ rfl
  have bO5_1 : BoxAt X6 O5 1 (.int .i64 (s.2 : Int)) := hbx 1 _ rfl
  clear hbx
  replace hE := hE.trans hb
  replace bO1_0 := BoxAt.ext hb bO1_0
  replace bO1_1 := BoxAt.ext hb bO1_1
  replace bO1_2 := BoxAt.ext hb bO1_2
  replace bO1_3 := BoxAt.ext hb bO1_3
  replace bO1_4 := BoxAt.ext hb bO1_4
  replace bO1_5 := BoxAt.ext hb bO1_5
  replace bO1_6 := BoxAt.ext hb bO1_6
  have hs7 := hb.size
  clear hb
  have lt8 := bO5_0.lt
  refine pl_step rfl (by kernel_rfl) (by kernel_rfl) (by kernel_rfl) (sn_new (us := #[.slice none 0 0]) (t := 39) (by kernel_rfl) ?_)
  intro O9 X10 hO hOs hb hbx
  have hzO9 := hO; have hyO9 := hOs; clear hO hOs
  have bO9_0 : BoxAt X10 O9 0 (.slice none 0 0) := hbx 0 _ rfl
  clear hbx
  replace hE := hE.trans hb
  replace bO1_0 := BoxAt.ext hb bO1_0
  replace bO1_1 := BoxAt.ext hb bO1_1
  replace bO1_2 := BoxAt.ext hb bO1_2
  replace bO1_3 := BoxAt.ext hb bO1_3
  replace bO1_4 := BoxAt.ext hb bO1_4
  replace bO1_5 := BoxAt.ext hb bO1_5
  replace bO1_6 := BoxAt.ext hb bO1_6
  replace bO5_0 := BoxAt.ext hb bO5_0
  replace bO5_1 := BoxAt.ext hb bO5_1
  have hs11 := hb.size
  clear hb
  have lt12 := bO9_0.lt
  refine pl_take (.int .i64 0) rfl (by kernel_rfl) (by kernel_rfl) (by kernel_rfl) (by kernel_rfl) ?_
  refine pl_nil ?_
  refine qw_then ?_
  refine cw_seq ?_
  refine cw_seq ?_
  have hX13 : Ext X10 X10 := Ext.refl _
  refine cw_plain ?_
  refine pl_take (.agg #[.int .i64 (o.p : Int), .int .i64 (o.f : Int), .int .i64 (o.lo : Int), .int .i64 (o.hi : Int), .int .i64 (o.nd : Int), .int .i64 (o.tn : Int), .int .i64 (o.sl : Int)]) rfl (by kernel_rfl) (by kernel_rfl) (by kernel_rfl) (ex_load rfl (by kernel_rfl) (ld26 (bO1_0.1) (bO1_1.1) (bO1_2.1) (bO1_3.1) (bO1_4.1) (bO1_5.1) (bO1_6.1))) ?_
  refine pl_take (.agg #[.int .i64 (s.1 : Int), .int .i64 (s.2 : Int)]) rfl (by kernel_rfl) (by kernel_rfl) (by kernel_rfl) (ex_load rfl (by kernel_rfl) (ld29 (bO5_0.1) (bO5_1.1))) ?_
  refine pl_take (.int .i64 (lk : Int)) rfl (by kernel_rfl) (by kernel_rfl) (by kernel_rfl) (by kernel_rfl) ?_
  refine pl_step rfl (by kernel_rfl) (by kernel_rfl) (by kernel_rfl) (sn_call (f := 19) (args := #[.agg #[.int .i64 (o.p : Int), .int .i64 (o.f : Int), .int .i64 (o.lo : Int), .int .i64 (o.hi : Int), .int .i64 (o.nd : Int), .int .i64 (o.tn : Int), .int .i64 (o.sl : Int)], .agg #[.int .i64 (s.1 : Int), .int .i64 (s.2 : Int)], .int .i64 (lk : Int)]) (by kernel_rfl) ((sValid_r (r := true) o s lk _ (hv)).mono ?_))
  rintro e w14 ⟨rfl, hb⟩
  replace hE := hE.trans hb
  replace hX13 := hX13.trans hb
  have hs15 := hb.size
  clear hb
  refine ⟨_, rfl, ?_⟩
  refine pl_take (.bool false) rfl (by kernel_rfl) (by kernel_rfl) (by kernel_rfl) (by kernel_rfl) ?_
  refine pl_take (.bool false) rfl (by kernel_rfl) (by kernel_rfl) (by kernel_rfl) (by kernel_rfl) ?_
  refine pl_take (.int .i64 (d : Int)) rfl (by kernel_rfl) (by kernel_rfl) (by kernel_rfl) (by kernel_rfl) ?_
  refine pl_take (.pointer (some ⟨O1, 6, none⟩)) rfl (by kernel_rfl) (by kernel_rfl) (by kernel_rfl) (by kernel_rfl) ?_
  refine pl_take (.int .i64 (o.sl : Int)) rfl (by kernel_rfl) (by kernel_rfl) (by kernel_rfl) (ex_load rfl (by kernel_rfl) (ld3 ((BoxAt.ext hX13 bO1_6).1))) ?_
  refine pl_take (.int .i64 (-o.sl : Int)) rfl (by kernel_rfl) (by kernel_rfl) (by kernel_rfl) (ev_int (ev_wrap (a := 0 - o.sl) (by kernel_rfl) (by omega) (by omega)) (by omega)) ?_
  refine pl_take (.pointer (some ⟨O1, 6, none⟩)) rfl (by kernel_rfl) (by kernel_rfl) (by kernel_rfl) (by kernel_rfl) ?_
  refine pl_take (.int .i64 (o.sl : Int)) rfl (by kernel_rfl) (by kernel_rfl) (by kernel_rfl) (ex_load rfl (by kernel_rfl) (ld3 ((BoxAt.ext hX13 bO1_6).1))) ?_
  refine pl_step rfl (by kernel_rfl) (by kernel_rfl) (by kernel_rfl) (sn_call (f := 25) (args := #[.int .i64 (d : Int), .int .i64 (-o.sl : Int), .int .i64 (o.sl : Int)]) (by kernel_rfl) ((swath_isIn_r (r := true) d (-o.sl) o.sl _ (hd9)).mono ?_))
  rintro e w16 ⟨rfl, hb⟩
  replace hE := hE.trans hb
  replace hX13 := hX13.trans hb
  have hs17 := hb.size
  clear hb
  refine ⟨_, rfl, ?_⟩
  refine pl_take (.bool false) rfl (by kernel_rfl) (by kernel_rfl) (by kernel_rfl) (by kernel_rfl) ?_
  refine pl_take (.bool false) rfl (by kernel_rfl) (by kernel_rfl) (by kernel_rfl) (by kernel_rfl) ?_
  refine pl_nil ?_
  refine qw_then ?_
  refine cw_clean [2, 3, 4, 5, 8, 24] (ws' := [(2, .int .i64 (lk : Int)), (3, .int .i64 (d : Int)), (4, .pointer (some ⟨O1, 0, none⟩)), (5, .pointer (some ⟨O5, 0, none⟩)), (8, .pointer (some ⟨O9, 0, none⟩)), (24, .bool false)]) (by kernel_rfl) (fun L => ?_)
  refine cw_f (by kernel_rfl) ?_
  refine cw_skip ?_
  refine qw_then ?_
  refine cw_seq ?_
  refine cw_plain ?_
  refine pl_take (.agg #[.int .i64 (o.p : Int), .int .i64 (o.f : Int), .int .i64 (o.lo : Int), .int .i64 (o.hi : Int), .int .i64 (o.nd : Int), .int .i64 (o.tn : Int), .int .i64 (o.sl : Int)]) rfl (by kernel_rfl) (by kernel_rfl) (by kernel_rfl) (ex_load rfl (by kernel_rfl) (ld26 ((BoxAt.ext hX13 bO1_0).1) ((BoxAt.ext hX13 bO1_1).1) ((BoxAt.ext hX13 bO1_2).1) ((BoxAt.ext hX13 bO1_3).1) ((BoxAt.ext hX13 bO1_4).1) ((BoxAt.ext hX13 bO1_5).1) ((BoxAt.ext hX13 bO1_6).1))) ?_
  refine pl_take (.agg #[.int .i64 (s.1 : Int), .int .i64 (s.2 : Int)]) rfl (by kernel_rfl) (by kernel_rfl) (by kernel_rfl) (ex_load rfl (by kernel_rfl) (ld29 ((BoxAt.ext hX13 bO5_0).1) ((BoxAt.ext hX13 bO5_1).1))) ?_
  refine pl_take (.int .i64 (lk : Int)) rfl (by kernel_rfl) (by kernel_rfl) (by kernel_rfl) (by kernel_rfl) ?_
  refine pl_take (.int .i64 (d : Int)) rfl (by kernel_rfl) (by kernel_rfl) (by kernel_rfl) (by kernel_rfl) ?_
  refine pl_step rfl (by kernel_rfl) (by kernel_rfl) (by kernel_rfl) (sn_call (f := 26) (args := #[.agg #[.int .i64 (o.p : Int), .int .i64 (o.f : Int), .int .i64 (o.lo : Int), .int .i64 (o.hi : Int), .int .i64 (o.nd : Int), .int .i64 (o.tn : Int), .int .i64 (o.sl : Int)], .agg #[.int .i64 (s.1 : Int), .int .i64 (s.2 : Int)], .int .i64 (lk : Int), .int .i64 (d : Int)]) (by kernel_rfl) ((area_c o s lk d _ hv hd9).mono ?_))
  rintro e w21 ⟨B18, rfl, hn19, hr20, hb⟩
  replace hE := hE.trans hb
  replace hX13 := hX13.trans hb
  have hs22 := hb.size
  clear hb
  have lt23 := hr20.lt
  refine ⟨_, rfl, ?_⟩
  have bO1_t25 := (BoxAt.ext hX13 bO1_0)
  have bO1_t26 := (BoxAt.ext hX13 bO1_1)
  have bO1_t27 := (BoxAt.ext hX13 bO1_2)
  have bO1_t28 := (BoxAt.ext hX13 bO1_3)
  have bO1_t29 := (BoxAt.ext hX13 bO1_4)
  have bO1_t30 := (BoxAt.ext hX13 bO1_5)
  have bO1_t31 := (BoxAt.ext hX13 bO1_6)
  have bO5_t32 := (BoxAt.ext hX13 bO5_0)
  have bO5_t33 := (BoxAt.ext hX13 bO5_1)
  have bO9_t34 := (BoxAt.ext hX13 bO9_0)
  refine pl_put rfl (by kernel_rfl) (by kernel_rfl) (sn_set (O := O9) (j := 0) (v := .slice (some ⟨B18, 0, none⟩) 24 24) (ex_store (p := .pointer (some ⟨O9, 0, none⟩)) (v := .agg #[.slice (some ⟨B18, 0, none⟩) 24 24]) rfl (by kernel_rfl) (by kernel_rfl) (st39 bO9_t34.1 bO9_t34.2)) bO9_t34 ?_)
  intro X24 ho hv0 hk
  replace hE := ho.ext hE (Nat.le_trans (Nat.le_trans hs3 hs7) (Nat.le_of_eq hzO9))
  replace bO1_t25 := ho.box (Nat.ne_of_gt (Nat.lt_of_lt_of_le lt4 (Nat.le_trans hs7 (Nat.le_of_eq hzO9)))) bO1_t25
  replace bO1_t26 := ho.box (Nat.ne_of_gt (Nat.lt_of_lt_of_le lt4 (Nat.le_trans hs7 (Nat.le_of_eq hzO9)))) bO1_t26
  replace bO1_t27 := ho.box (Nat.ne_of_gt (Nat.lt_of_lt_of_le lt4 (Nat.le_trans hs7 (Nat.le_of_eq hzO9)))) bO1_t27
  replace bO1_t28 := ho.box (Nat.ne_of_gt (Nat.lt_of_lt_of_le lt4 (Nat.le_trans hs7 (Nat.le_of_eq hzO9)))) bO1_t28
  replace bO1_t29 := ho.box (Nat.ne_of_gt (Nat.lt_of_lt_of_le lt4 (Nat.le_trans hs7 (Nat.le_of_eq hzO9)))) bO1_t29
  replace bO1_t30 := ho.box (Nat.ne_of_gt (Nat.lt_of_lt_of_le lt4 (Nat.le_trans hs7 (Nat.le_of_eq hzO9)))) bO1_t30
  replace bO1_t31 := ho.box (Nat.ne_of_gt (Nat.lt_of_lt_of_le lt4 (Nat.le_trans hs7 (Nat.le_of_eq hzO9)))) bO1_t31
  replace bO5_t32 := ho.box (Nat.ne_of_gt (Nat.lt_of_lt_of_le lt8 (Nat.le_of_eq hzO9))) bO5_t32
  replace bO5_t33 := ho.box (Nat.ne_of_gt (Nat.lt_of_lt_of_le lt8 (Nat.le_of_eq hzO9))) bO5_t33
  replace hr20 := ho.rows (Nat.ne_of_lt (Nat.lt_of_lt_of_le lt12 (Nat.le_trans (Nat.le_trans hs15 hs17) hn19))) hr20
  have hs35 : w21.heap.size ≤ X24.heap.size := Nat.le_of_eq ho.size.symm
  clear ho hk bO9_t34
  have bO9_t34 := hv0; clear hv0
  refine pl_take (.int .i64 0) rfl (by kernel_rfl) (by kernel_rfl) (by kernel_rfl) (by kernel_rfl) ?_
  refine pl_nil ?_
  refine qw_then ?_
  refine cw_ret ?_
  refine qw_ret [.agg #[.slice (some ⟨B18, 0, none⟩) 24 24], .int .i64 0] rfl ⟨⟨_, by kernel_rfl, res_ld (ld39 (bO9_t34.1))⟩, (by kernel_rfl), trivial⟩ ?_
  exact ⟨B18, rfl, (Nat.le_trans (Nat.le_trans hs3 (Nat.le_trans hs7 (Nat.le_trans hs11 (Nat.le_trans hs15 hs17)))) hn19), hr20, hE⟩
set_option maxRecDepth 1000000 in
set_option maxHeartbeats 4000000 in
theorem Shown_n {o : Orb} {s : Int × Int} {lk d : Int} (w : World) (hd8 : shdB o s lk d = false) : Calls Tryd.prog 9 #[.agg #[.int .i64 o.p, .int .i64 o.f, .int .i64 o.lo, .int .i64 o.hi, .int .i64 o.nd, .int .i64 o.tn, .int .i64 o.sl], .agg #[.int .i64 s.1, .int .i64 s.2], .int .i64 lk, .int .i64 d] w (RetErr w 80) := by
  refine calls_cw 31 [(3, .int .i64 (d : Int)), (2, .int .i64 (lk : Int)), (1, .agg #[.int .i64 (s.1 : Int), .int .i64 (s.2 : Int)]), (0, .agg #[.int .i64 (o.p : Int), .int .i64 (o.f : Int), .int .i64 (o.lo : Int), .int .i64 (o.hi : Int), .int .i64 (o.nd : Int), .int .i64 (o.tn : Int), .int .i64 (o.sl : Int)])] Tryd.func9 rfl Tryd.ntmps9 (by kernel_rfl) (by kernel_rfl) (fun L => ?_)
  have hE : Ext w w := Ext.refl w
  refine cw_seq ?_
  refine cw_plain ?_
  refine pl_step rfl (by kernel_rfl) (by kernel_rfl) (by kernel_rfl) (sn_new (us := #[.int .i64 (o.p : Int), .int .i64 (o.f : Int), .int .i64 (o.lo : Int), .int .i64 (o.hi : Int), .int .i64 (o.nd : Int), .int .i64 (o.tn : Int), .int .i64 (o.sl : Int)]) (t := 26) (by kernel_rfl) ?_)
  intro O1 X2 hO hOs hb hbx
  have hzO1 := hO; have hyO1 := hOs; clear hO hOs
  have bO1_0 : BoxAt X2 O1 0 (.int .i64 (o.p : Int)) := hbx 0 _ rfl
  have bO1_1 : BoxAt X2 O1 1 (.int .i64 (o.f : Int)) := hbx 1 _ rfl
  have bO1_2 : BoxAt X2 O1 2 (.int .i64 (o.lo : Int)) := hbx 2 _ rfl
  have bO1_3 : BoxAt X2 O1 3 (.int .i64 (o.hi : Int)) := hbx 3 _ rfl
  have bO1_4 : BoxAt X2 O1 4 (.int .i64 (o.nd : Int)) := hbx 4 _ rfl
  have bO1_5 : BoxAt X2 O1 5 (.int .i64 (o.tn : Int)) := hbx 5 _ rfl
  have bO1_6 : BoxAt X2 O1 6 (.int .i64 (o.sl : Int)) := hbx 6 _ rfl
  clear hbx
  replace hE := hE.trans hb
  have hs3 := hb.size
  clear hb
  have lt4 := bO1_0.lt
  refine pl_step rfl (by kernel_rfl) (by kernel_rfl) (by kernel_rfl) (sn_new (us := #[.int .i64 (s.1 : Int), .int .i64 (s.2 : Int)]) (t := 29) (by kernel_rfl) ?_)
  intro O5 X6 hO hOs hb hbx
  have hzO5 := hO; have hyO5 := hOs; clear hO hOs
  have bO5_0 : BoxAt X6 O5 0 (.int .i64 (s.1 : Int)) := hbx 0 _ rfl
  have bO5_1 : BoxAt X6 O5 1 (.int .i64 (s.2 : Int)) := hbx 1 _ rfl
  clear hbx
  replace hE := hE.trans hb
  replace bO1_0 := BoxAt.ext hb bO1_0
  replace bO1_1 := BoxAt.ext hb bO1_1
  replace bO1_2 := BoxAt.ext hb bO1_2
  replace bO1_3 := BoxAt.ext hb bO1_3
  replace bO1_4 := BoxAt.ext hb bO1_4
  replace bO1_5 := BoxAt.ext hb bO1_5
  replace bO1_6 := BoxAt.ext hb bO1_6
  have hs7 := hb.size
  clear hb
  have lt8 := bO5_0.lt
  refine pl_step rfl (by kernel_rfl) (by kernel_rfl) (by kernel_rfl) (sn_new (us := #[.slice none 0 0]) (t := 39) (by kernel_rfl) ?_)
  intro O9 X10 hO hOs hb hbx
  have hzO9 := hO; have hyO9 := hOs; clear hO hOs
  have bO9_0 : BoxAt X10 O9 0 (.slice none 0 0) := hbx 0 _ rfl
  clear hbx
  replace hE := hE.trans hb
  replace bO1_0 := BoxAt.ext hb bO1_0
  replace bO1_1 := BoxAt.ext hb bO1_1
  replace bO1_2 := BoxAt.ext hb bO1_2
  replace bO1_3 := BoxAt.ext hb bO1_3
  replace bO1_4 := BoxAt.ext hb bO1_4
  replace bO1_5 := BoxAt.ext hb bO1_5
  replace bO1_6 := BoxAt.ext hb bO1_6
  replace bO5_0 := BoxAt.ext hb bO5_0
  replace bO5_1 := BoxAt.ext hb bO5_1
  have hs11 := hb.size
  clear hb
  have lt12 := bO9_0.lt
  refine pl_take (.int .i64 0) rfl (by kernel_rfl) (by kernel_rfl) (by kernel_rfl) (by kernel_rfl) ?_
  refine pl_nil ?_
  refine qw_then ?_
  refine cw_seq ?_
  refine cw_seq ?_
  have hX13 : Ext X10 X10 := Ext.refl _
  refine cw_plain ?_
  refine pl_take (.agg #[.int .i64 (o.p : Int), .int .i64 (o.f : Int), .int .i64 (o.lo : Int), .int .i64 (o.hi : Int), .int .i64 (o.nd : Int), .int .i64 (o.tn : Int), .int .i64 (o.sl : Int)]) rfl (by kernel_rfl) (by kernel_rfl) (by kernel_rfl) (ex_load rfl (by kernel_rfl) (ld26 (bO1_0.1) (bO1_1.1) (bO1_2.1) (bO1_3.1) (bO1_4.1) (bO1_5.1) (bO1_6.1))) ?_
  refine pl_take (.agg #[.int .i64 (s.1 : Int), .int .i64 (s.2 : Int)]) rfl (by kernel_rfl) (by kernel_rfl) (by kernel_rfl) (ex_load rfl (by kernel_rfl) (ld29 (bO5_0.1) (bO5_1.1))) ?_
  refine pl_take (.int .i64 (lk : Int)) rfl (by kernel_rfl) (by kernel_rfl) (by kernel_rfl) (by kernel_rfl) ?_
  rcases Bool.eq_false_or_eq_true (Swath.shB o s lk) with hb14 | hb14
  ·
    have hq0 := Orb.ok_t.1 (Swath.shB_t.1 hb14).1
    refine pl_step rfl (by kernel_rfl) (by kernel_rfl) (by kernel_rfl) (sn_call (f := 19) (args := #[.agg #[.int .i64 (o.p : Int), .int .i64 (o.f : Int), .int .i64 (o.lo : Int), .int .i64 (o.hi : Int), .int .i64 (o.nd : Int), .int .i64 (o.tn : Int), .int .i64 (o.sl : Int)], .agg #[.int .i64 (s.1 : Int), .int .i64 (s.2 : Int)], .int .i64 (lk : Int)]) (by kernel_rfl) ((sValid_r (r := true) o s lk _ (hb14)).mono ?_))
    rintro e w15 ⟨rfl, hb⟩
    replace hE := hE.trans hb
    replace hX13 := hX13.trans hb
    have hs16 := hb.size
    clear hb
    refine ⟨_, rfl, ?_⟩
    refine pl_take (.bool false) rfl (by kernel_rfl) (by kernel_rfl) (by kernel_rfl) (by kernel_rfl) ?_
    refine pl_take (.bool false) rfl (by kernel_rfl) (by kernel_rfl) (by kernel_rfl) (by kernel_rfl) ?_
    refine pl_take (.int .i64 (d : Int)) rfl (by kernel_rfl) (by kernel_rfl) (by kernel_rfl) (by kernel_rfl) ?_
    refine pl_take (.pointer (some ⟨O1, 6, none⟩)) rfl (by kernel_rfl) (by kernel_rfl) (by kernel_rfl) (by kernel_rfl) ?_
    refine pl_take (.int .i64 (o.sl : Int)) rfl (by kernel_rfl) (by kernel_rfl) (by kernel_rfl) (ex_load rfl (by kernel_rfl) (ld3 ((BoxAt.ext hX13 bO1_6).1))) ?_
    refine pl_take (.int .i64 (-o.sl : Int)) rfl (by kernel_rfl) (by kernel_rfl) (by kernel_rfl) (ev_int (ev_wrap (a := 0 - o.sl) (by kernel_rfl) (by omega) (by omega)) (by omega)) ?_
    refine pl_take (.pointer (some ⟨O1, 6, none⟩)) rfl (by kernel_rfl) (by kernel_rfl) (by kernel_rfl) (by kernel_rfl) ?_
    refine pl_take (.int .i64 (o.sl : Int)) rfl (by kernel_rfl) (by kernel_rfl) (by kernel_rfl) (ex_load rfl (by kernel_rfl) (ld3 ((BoxAt.ext hX13 bO1_6).1))) ?_
    rcases Bool.eq_false_or_eq_true (Globe.inB d (-o.sl) o.sl) with hb17 | hb17
    ·
      have hq18 := Globe.inB_t.1 hb17
      refine pl_step rfl (by kernel_rfl) (by kernel_rfl) (by kernel_rfl) (sn_call (f := 25) (args := #[.int .i64 (d : Int), .int .i64 (-o.sl : Int), .int .i64 (o.sl : Int)]) (by kernel_rfl) ((swath_isIn_r (r := true) d (-o.sl) o.sl _ (hb17)).mono ?_))
      rintro e w19 ⟨rfl, hb⟩
      replace hE := hE.trans hb
      replace hX13 := hX13.trans hb
      have hs20 := hb.size
      clear hb
      refine ⟨_, rfl, ?_⟩
      refine pl_take (.bool false) rfl (by kernel_rfl) (by kernel_rfl) (by kernel_rfl) (by kernel_rfl) ?_
      refine pl_take (.bool false) rfl (by kernel_rfl) (by kernel_rfl) (by kernel_rfl) (by kernel_rfl) ?_
      refine pl_nil ?_
      refine qw_then ?_
      refine cw_clean [2, 3, 4, 5, 8, 24] (ws' := [(2, .int .i64 (lk : Int)), (3, .int .i64 (d : Int)), (4, .pointer (some ⟨O1, 0, none⟩)), (5, .pointer (some ⟨O5, 0, none⟩)), (8, .pointer (some ⟨O9, 0, none⟩)), (24, .bool false)]) (by kernel_rfl) (fun L => ?_)
      refine cw_f (by kernel_rfl) ?_
      refine cw_skip ?_
      refine qw_then ?_
      refine cw_seq ?_
      exfalso; simp [shdB, hb14, hb17] at hd8
    ·
      refine pl_step rfl (by kernel_rfl) (by kernel_rfl) (by kernel_rfl) (sn_call (f := 25) (args := #[.int .i64 (d : Int), .int .i64 (-o.sl : Int), .int .i64 (o.sl : Int)]) (by kernel_rfl) ((swath_isIn_r (r := false) d (-o.sl) o.sl _ (hb17)).mono ?_))
      rintro e w21 ⟨rfl, hb⟩
      replace hE := hE.trans hb
      replace hX13 := hX13.trans hb
      have hs22 := hb.size
      clear hb
      refine ⟨_, rfl, ?_⟩
      refine pl_take (.bool true) rfl (by kernel_rfl) (by kernel_rfl) (by kernel_rfl) (by kernel_rfl) ?_
      refine pl_take (.bool true) rfl (by kernel_rfl) (by kernel_rfl) (by kernel_rfl) (by kernel_rfl) ?_
      refine pl_nil ?_
      refine qw_then ?_
      refine cw_clean [2, 3, 4, 5, 8, 24] (ws' := [(2, .int .i64 (lk : Int)), (3, .int .i64 (d : Int)), (4, .pointer (some ⟨O1, 0, none⟩)), (5, .pointer (some ⟨O5, 0, none⟩)), (8, .pointer (some ⟨O9, 0, none⟩)), (24, .bool true)]) (by kernel_rfl) (fun L => ?_)
      refine cw_t (by kernel_rfl) ?_
      refine cw_seq ?_
      refine cw_plain ?_
      refine pl_take (.agg #[.slice none 0 0]) rfl (by kernel_rfl) (by kernel_rfl) (by kernel_rfl) (by kernel_rfl) ?_
      have bO1_t24 := (BoxAt.ext hX13 bO1_0)
      have bO1_t25 := (BoxAt.ext hX13 bO1_1)
      have bO1_t26 := (BoxAt.ext hX13 bO1_2)
      have bO1_t27 := (BoxAt.ext hX13 bO1_3)
      have bO1_t28 := (BoxAt.ext hX13 bO1_4)
      have bO1_t29 := (BoxAt.ext hX13 bO1_5)
      have bO1_t30 := (BoxAt.ext hX13 bO1_6)
      have bO5_t31 := (BoxAt.ext hX13 bO5_0)
      have bO5_t32 := (BoxAt.ext hX13 bO5_1)
      have bO9_t33 := (BoxAt.ext hX13 bO9_0)
      refine pl_put rfl (by kernel_rfl) (by kernel_rfl) (sn_set (O := O9) (j := 0) (v := .slice none 0 0) (ex_store (p := .pointer (some ⟨O9, 0, none⟩)) (v := .agg #[.slice none 0 0]) rfl (by kernel_rfl) (by kernel_rfl) (st39 bO9_t33.1 bO9_t33.2)) bO9_t33 ?_)
      intro X23 ho hv0 hk
      replace hE := ho.ext hE (Nat.le_trans (Nat.le_trans hs3 hs7) (Nat.le_of_eq hzO9))
      replace bO1_t24 := ho.box (Nat.ne_of_gt (Nat.lt_of_lt_of_le lt4 (Nat.le_trans hs7 (Nat.le_of_eq hzO9)))) bO1_t24
      replace bO1_t25 := ho.box (Nat.ne_of_gt (Nat.lt_of_lt_of_le lt4 (Nat.le_trans hs7 (Nat.le_of_eq hzO9)))) bO1_t25
      replace bO1_t26 := ho.box (Nat.ne_of_gt (Nat.lt_of_lt_of_le lt4 (Nat.le_trans hs7 (Nat.le_of_eq hzO9)))) bO1_t26
      replace bO1_t27 := ho.box (Nat.ne_of_gt (Nat.lt_of_lt_of_le lt4 (Nat.le_trans hs7 (Nat.le_of_eq hzO9)))) bO1_t27
      replace bO1_t28 := ho.box (Nat.ne_of_gt (Nat.lt_of_lt_of_le lt4 (Nat.le_trans hs7 (Nat.le_of_eq hzO9)))) bO1_t28
      replace bO1_t29 := ho.box (Nat.ne_of_gt (Nat.lt_of_lt_of_le lt4 (Nat.le_trans hs7 (Nat.le_of_eq hzO9)))) bO1_t29
      replace bO1_t30 := ho.box (Nat.ne_of_gt (Nat.lt_of_lt_of_le lt4 (Nat.le_trans hs7 (Nat.le_of_eq hzO9)))) bO1_t30
      replace bO5_t31 := ho.box (Nat.ne_of_gt (Nat.lt_of_lt_of_le lt8 (Nat.le_of_eq hzO9))) bO5_t31
      replace bO5_t32 := ho.box (Nat.ne_of_gt (Nat.lt_of_lt_of_le lt8 (Nat.le_of_eq hzO9))) bO5_t32
      have hs34 : w21.heap.size ≤ X23.heap.size := Nat.le_of_eq ho.size.symm
      clear ho hk bO9_t33
      have bO9_t33 := hv0; clear hv0
      refine pl_take (.int .i64 80) rfl (by kernel_rfl) (by kernel_rfl) (by kernel_rfl) (by kernel_rfl) ?_
      refine pl_nil ?_
      refine qw_then ?_
      refine cw_ret ?_
      refine qw_then_ret ?_
      refine qw_ret [.agg #[.slice none 0 0], .int .i64 80] rfl ⟨⟨_, by kernel_rfl, res_ld (ld39 (bO9_t33.1))⟩, (by kernel_rfl), trivial⟩ ?_
      exact ⟨rfl, hE⟩
  ·
    refine pl_step rfl (by kernel_rfl) (by kernel_rfl) (by kernel_rfl) (sn_call (f := 19) (args := #[.agg #[.int .i64 (o.p : Int), .int .i64 (o.f : Int), .int .i64 (o.lo : Int), .int .i64 (o.hi : Int), .int .i64 (o.nd : Int), .int .i64 (o.tn : Int), .int .i64 (o.sl : Int)], .agg #[.int .i64 (s.1 : Int), .int .i64 (s.2 : Int)], .int .i64 (lk : Int)]) (by kernel_rfl) ((sValid_r (r := false) o s lk _ (hb14)).mono ?_))
    rintro e w35 ⟨rfl, hb⟩
    replace hE := hE.trans hb
    replace hX13 := hX13.trans hb
    have hs36 := hb.size
    clear hb
    refine ⟨_, rfl, ?_⟩
    refine pl_take (.bool true) rfl (by kernel_rfl) (by kernel_rfl) (by kernel_rfl) (by kernel_rfl) ?_
    refine pl_take (.bool true) rfl (by kernel_rfl) (by kernel_rfl) (by kernel_rfl) (by kernel_rfl) ?_
    refine pl_skip rfl (by kernel_rfl) (by kernel_rfl) (by kernel_rfl) ?_
    refine pl_skip rfl (by kernel_rfl) (by kernel_rfl) (by kernel_rfl) ?_
    refine pl_skip rfl (by kernel_rfl) (by kernel_rfl) (by kernel_rfl) ?_
    refine pl_skip rfl (by kernel_rfl) (by kernel_rfl) (by kernel_rfl) ?_
    refine pl_skip rfl (by kernel_rfl) (by kernel_rfl) (by kernel_rfl) ?_
    refine pl_skip rfl (by kernel_rfl) (by kernel_rfl) (by kernel_rfl) ?_
    refine pl_skip rfl (by kernel_rfl) (by kernel_rfl) (by kernel_rfl) ?_
    refine pl_skip rfl (by kernel_rfl) (by kernel_rfl) (by kernel_rfl) ?_
    refine pl_take (.bool true) rfl (by kernel_rfl) (by kernel_rfl) (by kernel_rfl) (by kernel_rfl) ?_
    refine pl_nil ?_
    refine qw_then ?_
    refine cw_clean [2, 3, 4, 5, 8, 24] (ws' := [(2, .int .i64 (lk : Int)), (3, .int .i64 (d : Int)), (4, .pointer (some ⟨O1, 0, none⟩)), (5, .pointer (some ⟨O5, 0, none⟩)), (8, .pointer (some ⟨O9, 0, none⟩)), (24, .bool true)]) (by kernel_rfl) (fun L => ?_)
    refine cw_t (by kernel_rfl) ?_
    refine cw_seq ?_
    refine cw_plain ?_
    refine pl_take (.agg #[.slice none 0 0]) rfl (by kernel_rfl) (by kernel_rfl) (by kernel_rfl) (by kernel_rfl) ?_
    have bO1_t38 := (BoxAt.ext hX13 bO1_0)
    have bO1_t39 := (BoxAt.ext hX13 bO1_1)
    have bO1_t40 := (BoxAt.ext hX13 bO1_2)
    have bO1_t41 := (BoxAt.ext hX13 bO1_3)
    have bO1_t42 := (BoxAt.ext hX13 bO1_4)
    have bO1_t43 := (BoxAt.ext hX13 bO1_5)
    have bO1_t44 := (BoxAt.ext hX13 bO1_6)
    have bO5_t45 := (BoxAt.ext hX13 bO5_0)
    have bO5_t46 := (BoxAt.ext hX13 bO5_1)
    have bO9_t47 := (BoxAt.ext hX13 bO9_0)
    refine pl_put rfl (by kernel_rfl) (by kernel_rfl) (sn_set (O := O9) (j := 0) (v := .slice none 0 0) (ex_store (p := .pointer (some ⟨O9, 0, none⟩)) (v := .agg #[.slice none 0 0]) rfl (by kernel_rfl) (by kernel_rfl) (st39 bO9_t47.1 bO9_t47.2)) bO9_t47 ?_)
    intro X37 ho hv0 hk
    replace hE := ho.ext hE (Nat.le_trans (Nat.le_trans hs3 hs7) (Nat.le_of_eq hzO9))
    replace bO1_t38 := ho.box (Nat.ne_of_gt (Nat.lt_of_lt_of_le lt4 (Nat.le_trans hs7 (Nat.le_of_eq hzO9)))) bO1_t38
    replace bO1_t39 := ho.box (Nat.ne_of_gt (Nat.lt_of_lt_of_le lt4 (Nat.le_trans hs7 (Nat.le_of_eq hzO9)))) bO1_t39
    replace bO1_t40 := ho.box (Nat.ne_of_gt (Nat.lt_of_lt_of_le lt4 (Nat.le_trans hs7 (Nat.le_of_eq hzO9)))) bO1_t40
    replace bO1_t41 := ho.box (Nat.ne_of_gt (Nat.lt_of_lt_of_le lt4 (Nat.le_trans hs7 (Nat.le_of_eq hzO9)))) bO1_t41
    replace bO1_t42 := ho.box (Nat.ne_of_gt (Nat.lt_of_lt_of_le lt4 (Nat.le_trans hs7 (Nat.le_of_eq hzO9)))) bO1_t42
    replace bO1_t43 := ho.box (Nat.ne_of_gt (Nat.lt_of_lt_of_le lt4 (Nat.le_trans hs7 (Nat.le_of_eq hzO9)))) bO1_t43
    replace bO1_t44 := ho.box (Nat.ne_of_gt (Nat.lt_of_lt_of_le lt4 (Nat.le_trans hs7 (Nat.le_of_eq hzO9)))) bO1_t44
    replace bO5_t45 := ho.box (Nat.ne_of_gt (Nat.lt_of_lt_of_le lt8 (Nat.le_of_eq hzO9))) bO5_t45
    replace bO5_t46 := ho.box (Nat.ne_of_gt (Nat.lt_of_lt_of_le lt8 (Nat.le_of_eq hzO9))) bO5_t46
    have hs48 : w35.heap.size ≤ X37.heap.size := Nat.le_of_eq ho.size.symm
    clear ho hk bO9_t47
    have bO9_t47 := hv0; clear hv0
    refine pl_take (.int .i64 80) rfl (by kernel_rfl) (by kernel_rfl) (by kernel_rfl) (by kernel_rfl) ?_
    refine pl_nil ?_
    refine qw_then ?_
    refine cw_ret ?_
    refine qw_then_ret ?_
    refine qw_ret [.agg #[.slice none 0 0], .int .i64 80] rfl ⟨⟨_, by kernel_rfl, res_ld (ld39 (bO9_t47.1))⟩, (by kernel_rfl), trivial⟩ ?_
    exact ⟨rfl, hE⟩
set_option maxRecDepth 1000000 in
set_option maxHeartbeats 4000000 in
theorem Shows_t {w1 : World} {o : Orb} {s : Int × Int} {lk : Int} {a : Option Addr} {l : List Int} {n : Nat} {v : Bool} (c : Nat) (w : World) (hA : AA w1 a l n v) (e1 : Ext w1 w) (hv : Swath.shB o s lk = true) : Calls Tryd.prog 20 #[.agg #[.int .i64 o.p, .int .i64 o.f, .int .i64 o.lo, .int .i64 o.hi, .int .i64 o.nd, .int .i64 o.tn, .int .i64 o.sl], .agg #[.int .i64 s.1, .int .i64 s.2], .int .i64 lk, .agg #[.slice a n c]] w fun e w' => e = .returned (.bool (Swath.showsB o s lk l)) ∧ Ext w w' := by
  refine calls_cw 26 [(3, .agg #[.slice a n c]), (2, .int .i64 (lk : Int)), (1, .agg #[.int .i64 (s.1 : Int), .int .i64 (s.2 : Int)]), (0, .agg #[.int .i64 (o.p : Int), .int .i64 (o.f : Int), .int .i64 (o.lo : Int), .int .i64 (o.hi : Int), .int .i64 (o.nd : Int), .int .i64 (o.tn : Int), .int .i64 (o.sl : Int)])] Tryd.func20 rfl Tryd.ntmps20 (by kernel_rfl) (by kernel_rfl) (fun L => ?_)
  have hE : Ext w w := Ext.refl w
  refine cw_seq ?_
  refine cw_plain ?_
  refine pl_step rfl (by kernel_rfl) (by kernel_rfl) (by kernel_rfl) (sn_new (us := #[.int .i64 (o.p : Int), .int .i64 (o.f : Int), .int .i64 (o.lo : Int), .int .i64 (o.hi : Int), .int .i64 (o.nd : Int), .int .i64 (o.tn : Int), .int .i64 (o.sl : Int)]) (t := 26) (by kernel_rfl) ?_)
  intro O1 X2 hO hOs hb hbx
  have hzO1 := hO; have hyO1 := hOs; clear hO hOs
  have bO1_0 : BoxAt X2 O1 0 (.int .i64 (o.p : Int)) := hbx 0 _ rfl
  have bO1_1 : BoxAt X2 O1 1 (.int .i64 (o.f : Int)) := hbx 1 _ rfl
  have bO1_2 : BoxAt X2 O1 2 (.int .i64 (o.lo : Int)) := hbx 2 _ rfl
  have bO1_3 : BoxAt X2 O1 3 (.int .i64 (o.hi : Int)) := hbx 3 _ rfl
  have bO1_4 : BoxAt X2 O1 4 (.int .i64 (o.nd : Int)) := hbx 4 _ rfl
  have bO1_5 : BoxAt X2 O1 5 (.int .i64 (o.tn : Int)) := hbx 5 _ rfl
  have bO1_6 : BoxAt X2 O1 6 (.int .i64 (o.sl : Int)) := hbx 6 _ rfl
  clear hbx
  replace hE := hE.trans hb
  have hs3 := hb.size
  clear hb
  have lt4 := bO1_0.lt
  refine pl_step rfl (by kernel_rfl) (by kernel_rfl) (by kernel_rfl) (sn_new (us := #[.int .i64 (s.1 : Int), .int .i64 (s.2 : Int)]) (t := 29) (by kernel_rfl) ?_)
  intro O5 X6 hO hOs hb hbx
  have hzO5 := hO; have hyO5 := hOs; clear hO hOs
  have bO5_0 : BoxAt X6 O5 0 (.int .i64 (s.1 : Int)) := hbx 0 _ rfl
  have bO5_1 : BoxAt X6 O5 1 (.int .i64 (s.2 : Int)) := hbx 1 _ rfl
  clear hbx
  replace hE := hE.trans hb
  replace bO1_0 := BoxAt.ext hb bO1_0
  replace bO1_1 := BoxAt.ext hb bO1_1
  replace bO1_2 := BoxAt.ext hb bO1_2
  replace bO1_3 := BoxAt.ext hb bO1_3
  replace bO1_4 := BoxAt.ext hb bO1_4
  replace bO1_5 := BoxAt.ext hb bO1_5
  replace bO1_6 := BoxAt.ext hb bO1_6
  have hs7 := hb.size
  clear hb
  have lt8 := bO5_0.lt
  refine pl_step rfl (by kernel_rfl) (by kernel_rfl) (by kernel_rfl) (sn_new (us := #[.slice a n c]) (t := 39) (by kernel_rfl) ?_)
  intro O9 X10 hO hOs hb hbx
  have hzO9 := hO; have hyO9 := hOs; clear hO hOs
  have bO9_0 : BoxAt X10 O9 0 (.slice a n c) := hbx 0 _ rfl
  clear hbx
  replace hE := hE.trans hb
  replace bO1_0 := BoxAt.ext hb bO1_0
  replace bO1_1 := BoxAt.ext hb bO1_1
  replace bO1_2 := BoxAt.ext hb bO1_2
  replace bO1_3 := BoxAt.ext hb bO1_3
  replace bO1_4 := BoxAt.ext hb bO1_4
  replace bO1_5 := BoxAt.ext hb bO1_5
  replace bO1_6 := BoxAt.ext hb bO1_6
  replace bO5_0 := BoxAt.ext hb bO5_0
  replace bO5_1 := BoxAt.ext hb bO5_1
  have hs11 := hb.size
  clear hb
  have lt12 := bO9_0.lt
  refine pl_take (.bool false) rfl (by kernel_rfl) (by kernel_rfl) (by kernel_rfl) (by kernel_rfl) ?_
  refine pl_nil ?_
  refine qw_then ?_
  refine cw_seq ?_
  have hX13 : Ext X10 X10 := Ext.refl _
  refine cw_plain ?_
  refine pl_take (.agg #[.int .i64 (o.p : Int), .int .i64 (o.f : Int), .int .i64 (o.lo : Int), .int .i64 (o.hi : Int), .int .i64 (o.nd : Int), .int .i64 (o.tn : Int), .int .i64 (o.sl : Int)]) rfl (by kernel_rfl) (by kernel_rfl) (by kernel_rfl) (ex_load rfl (by kernel_rfl) (ld26 (bO1_0.1) (bO1_1.1) (bO1_2.1) (bO1_3.1) (bO1_4.1) (bO1_5.1) (bO1_6.1))) ?_
  refine pl_take (.agg #[.int .i64 (s.1 : Int), .int .i64 (s.2 : Int)]) rfl (by kernel_rfl) (by kernel_rfl) (by kernel_rfl) (ex_load rfl (by kernel_rfl) (ld29 (bO5_0.1) (bO5_1.1))) ?_
  refine pl_take (.int .i64 (lk : Int)) rfl (by kernel_rfl) (by kernel_rfl) (by kernel_rfl) (by kernel_rfl) ?_
  refine pl_step rfl (by kernel_rfl) (by kernel_rfl) (by kernel_rfl) (sn_call (f := 10) (args := #[.agg #[.int .i64 (o.p : Int), .int .i64 (o.f : Int), .int .i64 (o.lo : Int), .int .i64 (o.hi : Int), .int .i64 (o.nd : Int), .int .i64 (o.tn : Int), .int .i64 (o.sl : Int)], .agg #[.int .i64 (s.1 : Int), .int .i64 (s.2 : Int)], .int .i64 (lk : Int)]) (by kernel_rfl) ((Strip_y (o := o) (s := s) (lk := lk) _ (hv)).mono ?_))
  rintro e w23 ⟨B14, g15, k16, k17, rfl, hn18, hn19, hne20, hr21, hr22, hb⟩
  replace hE := hE.trans hb
  replace hX13 := hX13.trans hb
  have hs24 := hb.size
  clear hb
  have lt25 := hr21.lt
  have lt26 := hr22.lt
  have hne20h := Lib.hid hne20
  refine ⟨_, rfl, ?_⟩
  refine pl_take (.tuple #[.agg #[.slice (some ⟨B14, 0, none⟩) 24 k16, .slice (some ⟨g15, 0, none⟩) 24 k17], .int .i64 0]) rfl (by kernel_rfl) (by kernel_rfl) (by kernel_rfl) (by kernel_rfl) ?_
  refine pl_take (.agg #[.slice (some ⟨B14, 0, none⟩) 24 k16, .slice (some ⟨g15, 0, none⟩) 24 k17]) rfl (by kernel_rfl) (by kernel_rfl) (by kernel_rfl) (by kernel_rfl) ?_
  refine pl_take (.int .i64 0) rfl (by kernel_rfl) (by kernel_rfl) (by kernel_rfl) (by kernel_rfl) ?_
  refine pl_step rfl (by kernel_rfl) (by kernel_rfl) (by kernel_rfl) (sn_new (us := #[.slice none 0 0, .slice none 0 0]) (t := 43) (by kernel_rfl) ?_)
  intro O27 X28 hO hOs hb hbx
  have hzO27 := hO; have hyO27 := hOs; clear hO hOs
  have bO27_0 : BoxAt X28 O27 0 (.slice none 0 0) := hbx 0 _ rfl
  have bO27_1 : BoxAt X28 O27 1 (.slice none 0 0) := hbx 1 _ rfl
  clear hbx
  replace hE := hE.trans hb
  replace hX13 := hX13.trans hb
  replace hr21 := hr21.ext hb
  replace hr22 := hr22.ext hb
  have hs29 := hb.size
  clear hb
  have lt30 := bO27_0.lt
  refine pl_put rfl (by kernel_rfl) (by kernel_rfl) (sn_set2 (O := O27) (j := 0) (v := .slice (some ⟨B14, 0, none⟩) 24 k16) (v' := .slice (some ⟨g15, 0, none⟩) 24 k17) (ex_store (p := .pointer (some ⟨O27, 0, none⟩)) (v := .agg #[.slice (some ⟨B14, 0, none⟩) 24 k16, .slice (some ⟨g15, 0, none⟩) 24 k17]) rfl (by kernel_rfl) (by kernel_rfl) (st43 bO27_0.1 bO27_0.2 bO27_1.1 bO27_1.2)) bO27_0 bO27_1 ?_)
  intro X31 ho hv0 hv1 hk
  replace hE := ho.ext hE (Nat.le_trans (Nat.le_trans hs3 (Nat.le_trans hs7 (Nat.le_trans hs11 hs24))) (Nat.le_of_eq hzO27))
  replace hX13 := ho.ext hX13 (Nat.le_trans hs24 (Nat.le_of_eq hzO27))
  replace hr21 := ho.rows (Nat.ne_of_gt (Nat.lt_of_lt_of_le lt25 (Nat.le_of_eq hzO27))) hr21
  replace hr22 := ho.rows (Nat.ne_of_gt (Nat.lt_of_lt_of_le lt26 (Nat.le_of_eq hzO27))) hr22
  have hs32 : X28.heap.size ≤ X31.heap.size := Nat.le_of_eq ho.size.symm
  clear ho hk bO27_0 bO27_1
  have bO27_0 := hv0; clear hv0
  have bO27_1 := hv1; clear hv1
  refine pl_take (.int .i64 0) rfl (by kernel_rfl) (by kernel_rfl) (by kernel_rfl) (by kernel_rfl) ?_
  refine pl_nil ?_
  refine qw_then ?_
  refine cw_clean [7, 9, 10] (ws' := [(7, .pointer (some ⟨O9, 0, none⟩)), (9, .pointer (some ⟨O27, 0, none⟩)), (10, .int .i64 0)]) (by kernel_rfl) (fun L => ?_)
  refine cw_seq ?_
  have hX33 : Ext X31 X31 := Ext.refl _
  refine cw_plain ?_
  refine pl_take (.int .i64 0) rfl (by kernel_rfl) (by kernel_rfl) (by kernel_rfl) (by kernel_rfl) ?_
  refine pl_take (.bool true) rfl (by kernel_rfl) (by kernel_rfl) (by kernel_rfl) (by kernel_rfl) ?_
  refine pl_take (.bool true) rfl (by kernel_rfl) (by kernel_rfl) (by kernel_rfl) (by kernel_rfl) ?_
  refine pl_take (.pointer (some ⟨O27, 0, none⟩)) rfl (by kernel_rfl) (by kernel_rfl) (by kernel_rfl) (by kernel_rfl) ?_
  refine pl_take (.agg #[.slice (some ⟨B14, 0, none⟩) 24 k16]) rfl (by kernel_rfl) (by kernel_rfl) (by kernel_rfl) (ex_load rfl (by kernel_rfl) (ld39 (bO27_0.1))) ?_
  refine pl_take (.agg #[.slice a n c]) rfl (by kernel_rfl) (by kernel_rfl) (by kernel_rfl) (ex_load rfl (by kernel_rfl) (ld39 ((BoxAt.ext (hX13.trans hX33) bO9_0).1))) ?_
  refine pl_step rfl (by kernel_rfl) (by kernel_rfl) (by kernel_rfl) (sn_call (f := 44) (args := #[.agg #[.slice (some ⟨B14, 0, none⟩) 24 k16], .agg #[.slice a n c]]) (by kernel_rfl) ((Contains_c _ _ _ (hr21.va (Swath.sure_valid (Swath.shB_t.1 hv).1 s lk)).aa (Ext.refl _) hA (e1.trans hE)).mono ?_))
  rintro e w34 ⟨rfl, hb⟩
  replace hE := hE.trans hb
  replace hX33 := hX33.trans hb
  have hs35 := hb.size
  clear hb
  refine ⟨_, rfl, ?_⟩
  refine pl_take (.bool (Globe.containsB (Swath.sureL o s lk) l)) rfl (by kernel_rfl) (by kernel_rfl) (by kernel_rfl) (by kernel_rfl) ?_
  refine pl_take (.bool (Globe.containsB (Swath.sureL o s lk) l)) rfl (by kernel_rfl) (by kernel_rfl) (by kernel_rfl) (by kernel_rfl) ?_
  refine pl_nil ?_
  refine qw_then ?_
  refine cw_ret ?_
  refine qw_ret [.bool (Globe.containsB (Swath.sureL o s lk) l)] rfl ⟨(by kernel_rfl), trivial⟩ ?_
  exact ⟨congrArg (fun b => Ending.returned (Value.bool b)) (show Swath.showsB o s lk l = Globe.containsB (Swath.sureL o s lk) l by unfold Swath.showsB; rw [hv]; rfl).symm, hE⟩
set_option maxRecDepth 1000000 in
set_option maxHeartbeats 4000000 in
theorem Shows_f {w1 : World} {o : Orb} {s : Int × Int} {lk : Int} {a : Option Addr} {l : List Int} {n : Nat} {v : Bool} (c : Nat) (w : World) (_hA : AA w1 a l n v) (_e1 : Ext w1 w) (hv : Swath.shB o s lk = false) : Calls Tryd.prog 20 #[.agg #[.int .i64 o.p, .int .i64 o.f, .int .i64 o.lo, .int .i64 o.hi, .int .i64 o.nd, .int .i64 o.tn, .int .i64 o.sl], .agg #[.int .i64 s.1, .int .i64 s.2], .int .i64 lk, .agg #[.slice a n c]] w fun e w' => e = .returned (.bool (Swath.showsB o s lk l)) ∧ Ext w w' := by
  refine calls_cw 26 [(3, .agg #[.slice a n c]), (2, .int .i64 (lk : Int)), (1, .agg #[.int .i64 (s.1 : Int), .int .i64 (s.2 : Int)]), (0, .agg #[.int .i64 (o.p : Int), .int .i64 (o.f : Int), .int .i64 (o.lo : Int), .int .i64 (o.hi : Int), .int .i64 (o.nd : Int), .int .i64 (o.tn : Int), .int .i64 (o.sl : Int)])] Tryd.func20 rfl Tryd.ntmps20 (by kernel_rfl) (by kernel_rfl) (fun L => ?_)
  have hE : Ext w w := Ext.refl w
  refine cw_seq ?_
  refine cw_plain ?_
  refine pl_step rfl (by kernel_rfl) (by kernel_rfl) (by kernel_rfl) (sn_new (us := #[.int .i64 (o.p : Int), .int .i64 (o.f : Int), .int .i64 (o.lo : Int), .int .i64 (o.hi : Int), .int .i64 (o.nd : Int), .int .i64 (o.tn : Int), .int .i64 (o.sl : Int)]) (t := 26) (by kernel_rfl) ?_)
  intro O1 X2 hO hOs hb hbx
  have hzO1 := hO; have hyO1 := hOs; clear hO hOs
  have bO1_0 : BoxAt X2 O1 0 (.int .i64 (o.p : Int)) := hbx 0 _ rfl
  have bO1_1 : BoxAt X2 O1 1 (.int .i64 (o.f : Int)) := hbx 1 _ rfl
  have bO1_2 : BoxAt X2 O1 2 (.int .i64 (o.lo : Int)) := hbx 2 _ rfl
  have bO1_3 : BoxAt X2 O1 3 (.int .i64 (o.hi : Int)) := hbx 3 _ rfl
  have bO1_4 : BoxAt X2 O1 4 (.int .i64 (o.nd : Int)) := hbx 4 _ rfl
  have bO1_5 : BoxAt X2 O1 5 (.int .i64 (o.tn : Int)) := hbx 5 _ rfl
  have bO1_6 : BoxAt X2 O1 6 (.int .i64 (o.sl : Int)) := hbx 6 _ rfl
  clear hbx
  replace hE := hE.trans hb
  have hs3 := hb.size
  clear hb
  have lt4 := bO1_0.lt
  refine pl_step rfl (by kernel_rfl) (by kernel_rfl) (by kernel_rfl) (sn_new (us := #[.int .i64 (s.1 : Int), .int .i64 (s.2 : Int)]) (t := 29) (by kernel_rfl) ?_)
  intro O5 X6 hO hOs hb hbx
  have hzO5 := hO; have hyO5 := hOs; clear hO hOs
  have bO5_0 : BoxAt X6 O5 0 (.int .i64 (s.1 : Int)) := hbx 0 _ rfl
  have bO5_1 : BoxAt X6 O5 1 (.int .i64 (s.2 : Int)) := hbx 1 _ rfl
  clear hbx
  replace hE := hE.trans hb
  replace bO1_0 := BoxAt.ext hb bO1_0
  replace bO1_1 := BoxAt.ext hb bO1_1
  replace bO1_2 := BoxAt.ext hb bO1_2
  replace bO1_3 := BoxAt.ext hb bO1_3
  replace bO1_4 := BoxAt.ext hb bO1_4
  replace bO1_5 := BoxAt.ext hb bO1_5
  replace bO1_6 := BoxAt.ext hb bO1_6
  have hs7 := hb.size
  clear hb
  have lt8 := bO5_0.lt
  refine pl_step rfl (by kernel_rfl) (by kernel_rfl) (by kernel_rfl) (sn_new (us := #[.slice a n c]) (t := 39) (by kernel_rfl) ?_)
  intro O9 X10 hO hOs hb hbx
  have hzO9 := hO; have hyO9 := hOs; clear hO hOs
  have bO9_0 : BoxAt X10 O9 0 (.slice a n c) := hbx 0 _ rfl
  clear hbx
  replace hE := hE.trans hb
  replace bO1_0 := BoxAt.ext hb bO1_0
  replace bO1_1 := BoxAt.ext hb bO1_1
  replace bO1_2 := BoxAt.ext hb bO1_2
  replace bO1_3 := BoxAt.ext hb bO1_3
  replace bO1_4 := BoxAt.ext hb bO1_4
  replace bO1_5 := BoxAt.ext hb bO1_5
  replace bO1_6 := BoxAt.ext hb bO1_6
  replace bO5_0 := BoxAt.ext hb bO5_0
  replace bO5_1 := BoxAt.ext hb bO5_1
  have hs11 := hb.size
  clear hb
  have lt12 := bO9_0.lt
  refine pl_take (.bool false) rfl (by kernel_rfl) (by kernel_rfl) (by kernel_rfl) (by kernel_rfl) ?_
  refine pl_nil ?_
  refine qw_then ?_
  refine cw_seq ?_
  have hX13 : Ext X10 X10 := Ext.refl _
  refine cw_plain ?_
  refine pl_take (.agg #[.int .i64 (o.p : Int), .int .i64 (o.f : Int), .int .i64 (o.lo : Int), .int .i64 (o.hi : Int), .int .i64 (o.nd : Int), .int .i64 (o.tn : Int), .int .i64 (o.sl : Int)]) rfl (by kernel_rfl) (by kernel_rfl) (by kernel_rfl) (ex_load rfl (by kernel_rfl) (ld26 (bO1_0.1) (bO1_1.1) (bO1_2.1) (bO1_3.1) (bO1_4.1) (bO1_5.1) (bO1_6.1))) ?_
  refine pl_take (.agg #[.int .i64 (s.1 : Int), .int .i64 (s.2 : Int)]) rfl (by kernel_rfl) (by kernel_rfl) (by kernel_rfl) (ex_load rfl (by kernel_rfl) (ld29 (bO5_0.1) (bO5_1.1))) ?_
  refine pl_take (.int .i64 (lk : Int)) rfl (by kernel_rfl) (by kernel_rfl) (by kernel_rfl) (by kernel_rfl) ?_
  refine pl_step rfl (by kernel_rfl) (by kernel_rfl) (by kernel_rfl) (sn_call (f := 10) (args := #[.agg #[.int .i64 (o.p : Int), .int .i64 (o.f : Int), .int .i64 (o.lo : Int), .int .i64 (o.hi : Int), .int .i64 (o.nd : Int), .int .i64 (o.tn : Int), .int .i64 (o.sl : Int)], .agg #[.int .i64 (s.1 : Int), .int .i64 (s.2 : Int)], .int .i64 (lk : Int)]) (by kernel_rfl) ((Strip_n _ (hv)).mono ?_))
  rintro e w14 ⟨rfl, hb⟩
  replace hE := hE.trans hb
  replace hX13 := hX13.trans hb
  have hs15 := hb.size
  clear hb
  refine ⟨_, rfl, ?_⟩
  refine pl_take (.tuple #[.agg #[.slice none 0 0, .slice none 0 0], .int .i64 80]) rfl (by kernel_rfl) (by kernel_rfl) (by kernel_rfl) (by kernel_rfl) ?_
  refine pl_take (.agg #[.slice none 0 0, .slice none 0 0]) rfl (by kernel_rfl) (by kernel_rfl) (by kernel_rfl) (by kernel_rfl) ?_
  refine pl_take (.int .i64 80) rfl (by kernel_rfl) (by kernel_rfl) (by kernel_rfl) (by kernel_rfl) ?_
  refine pl_step rfl (by kernel_rfl) (by kernel_rfl) (by kernel_rfl) (sn_new (us := #[.slice none 0 0, .slice none 0 0]) (t := 43) (by kernel_rfl) ?_)
  intro O16 X17 hO hOs hb hbx
  have hzO16 := hO; have hyO16 := hOs; clear hO hOs
  have bO16_0 : BoxAt X17 O16 0 (.slice none 0 0) := hbx 0 _ rfl
  have bO16_1 : BoxAt X17 O16 1 (.slice none 0 0) := hbx 1 _ rfl
  clear hbx
  replace hE := hE.trans hb
  replace hX13 := hX13.trans hb
  have hs18 := hb.size
  clear hb
  have lt19 := bO16_0.lt
  refine pl_put rfl (by kernel_rfl) (by kernel_rfl) (sn_set2 (O := O16) (j := 0) (v := .slice none 0 0) (v' := .slice none 0 0) (ex_store (p := .pointer (some ⟨O16, 0, none⟩)) (v := .agg #[.slice none 0 0, .slice none 0 0]) rfl (by kernel_rfl) (by kernel_rfl) (st43 bO16_0.1 bO16_0.2 bO16_1.1 bO16_1.2)) bO16_0 bO16_1 ?_)
  intro X20 ho hv0 hv1 hk
  replace hE := ho.ext hE (Nat.le_trans (Nat.le_trans hs3 (Nat.le_trans hs7 (Nat.le_trans hs11 hs15))) (Nat.le_of_eq hzO16))
  replace hX13 := ho.ext hX13 (Nat.le_trans hs15 (Nat.le_of_eq hzO16))
  have hs21 : X17.heap.size ≤ X20.heap.size := Nat.le_of_eq ho.size.symm
  clear ho hk bO16_0 bO16_1
  have bO16_0 := hv0; clear hv0
  have bO16_1 := hv1; clear hv1
  refine pl_take (.int .i64 80) rfl (by kernel_rfl) (by kernel_rfl) (by kernel_rfl) (by kernel_rfl) ?_
  refine pl_nil ?_
  refine qw_then ?_
  refine cw_clean [7, 9, 10] (ws' := [(7, .pointer (some ⟨O9, 0, none⟩)), (9, .pointer (some ⟨O16, 0, none⟩)), (10, .int .i64 80)]) (by kernel_rfl) (fun L => ?_)
  refine cw_seq ?_
  refine cw_plain ?_
  refine pl_take (.int .i64 80) rfl (by kernel_rfl) (by kernel_rfl) (by kernel_rfl) (by kernel_rfl) ?_
  refine pl_take (.bool false) rfl (by kernel_rfl) (by kernel_rfl) (by kernel_rfl) (by kernel_rfl) ?_
  refine pl_take (.bool false) rfl (by kernel_rfl) (by kernel_rfl) (by kernel_rfl) (by kernel_rfl) ?_
  refine pl_skip rfl (by kernel_rfl) (by kernel_rfl) (by kernel_rfl) ?_
  refine pl_skip rfl (by kernel_rfl) (by kernel_rfl) (by kernel_rfl) ?_
  refine pl_skip rfl (by kernel_rfl) (by kernel_rfl) (by kernel_rfl) ?_
  refine pl_skip rfl (by kernel_rfl) (by kernel_rfl) (by kernel_rfl) ?_
  refine pl_take (.bool false) rfl (by kernel_rfl) (by kernel_rfl) (by kernel_rfl) (by kernel_rfl) ?_
  refine pl_take (.bool false) rfl (by kernel_rfl) (by kernel_rfl) (by kernel_rfl) (by kernel_rfl) ?_
  refine pl_nil ?_
  refine qw_then ?_
  refine cw_ret ?_
  refine qw_ret [.bool false] rfl ⟨(by kernel_rfl), trivial⟩ ?_
  exact ⟨congrArg (fun b => Ending.returned (Value.bool b)) (show Swath.showsB o s lk l = false by unfold Swath.showsB; rw [hv]; rfl).symm, hE⟩
theorem Shows_c {w1 : World} {o : Orb} {s : Int × Int} {lk : Int} {a : Option Addr} {l : List Int} {n : Nat} {v : Bool} (c : Nat) (w : World) (hA : AA w1 a l n v) (e1 : Ext w1 w) : Calls Tryd.prog 20 #[.agg #[.int .i64 o.p, .int .i64 o.f, .int .i64 o.lo, .int .i64 o.hi, .int .i64 o.nd, .int .i64 o.tn, .int .i64 o.sl], .agg #[.int .i64 s.1, .int .i64 s.2], .int .i64 lk, .agg #[.slice a n c]] w fun e w' => e = .returned (.bool (Swath.showsB o s lk l)) ∧ Ext w w' := by
  cases hv : Swath.shB o s lk
  · exact Shows_f c w hA e1 hv
  · exact Shows_t c w hA e1 hv

end Go.Proofs.YtdjjkhefdalokaaDoor

/- 'pick': an index out of an arbitrary integer. Plain mathematics. -/
namespace Go.Proofs.YtdjjkhefdalokaaDoor

/-- The bounds of an int. -/
def IsI (c : Int) : Prop := -9223372036854775808 ≤ c ∧ c ≤ 9223372036854775807
def pickF (c n : Int) : Int := (if c < 0 then -(c + 1) else c) % n
theorem pickF_bd {c n : Int} (h : 0 < n) : 0 ≤ pickF c n ∧ pickF c n < n := ⟨Int.emod_nonneg _ (by omega), Int.emod_lt_of_pos _ h⟩
theorem pickF_neg {c n : Int} (h : c < 0) : pickF c n = (-(c + 1)) % n := by rw [pickF, if_pos h]
theorem pickF_pos {c n : Int} (h : 0 ≤ c) : pickF c n = c % n := by rw [pickF, if_neg (by omega)]

end Go.Proofs.YtdjjkhefdalokaaDoor

/- pick, in chapter 8's laws and in the references that they lean on. -/
namespace Go.Proofs.YtdjjkhefdalokaaDoor
open Go.RowKit

theorem pickL_c (c n : Int) (w : World) (hc : IsI c) (h0 : 0 < n) (h1 : n ≤ 100000000) : Calls Tryd.prog 7 #[.int .i64 c, .int .i64 n] w fun e w' => e = .returned (.int .i64 (pickF c n)) ∧ w = w' := by
  obtain ⟨h2, h3⟩ := hc
  by_cases h : c < 0
  · go_enter Tryd.func7, Tryd.ntmps7
    go_wp2
    go_ret
    exact ⟨ret_int (by rw [pickF_neg h, ← Int.neg_tmod, Int.tmod_eq_emod_of_nonneg (by omega)]), rfl⟩
  · have h' : 0 ≤ c := by omega
    go_enter Tryd.func7, Tryd.ntmps7
    go_wp2
    go_ret
    exact ⟨ret_int (by rw [pickF_pos h']), rfl⟩
theorem pickL_n (c : Int) (n : Nat) (w : World) (hc : IsI c) (h0 : 0 < n) (h1 : n ≤ 100000000) : Calls Tryd.prog 7 #[.int .i64 c, .int .i64 ((n : Nat) : Int)] w fun e w' => ∃ k : Nat, e = .returned (.int .i64 ((k : Nat) : Int)) ∧ k < n ∧ pickF c n = (k : Int) ∧ w = w' :=
  (pickL_c c n w hc (by omega) (by omega)).mono fun e w' ⟨he, hw⟩ => by
    have hb := pickF_bd (c := c) (n := (n : Int)) (by omega)
    obtain ⟨k, hk⟩ : ∃ k : Nat, pickF c n = (k : Int) := ⟨(pickF c n).toNat, by omega⟩
    exact ⟨k, by rw [he, hk], by omega, hk, hw⟩
theorem pick7_c (c n : Int) (w : World) (hc : IsI c) (h0 : 0 < n) (h1 : n ≤ 100000000) : Calls Tryd.prog 21 #[.int .i64 c, .int .i64 n] w fun e w' => e = .returned (.int .i64 (pickF c n)) ∧ w = w' := by
  obtain ⟨h2, h3⟩ := hc
  by_cases h : c < 0
  · go_enter Tryd.func21, Tryd.ntmps21
    go_wp2
    go_ret
    exact ⟨ret_int (by rw [pickF_neg h, ← Int.neg_tmod, Int.tmod_eq_emod_of_nonneg (by omega)]), rfl⟩
  · have h' : 0 ≤ c := by omega
    go_enter Tryd.func21, Tryd.ntmps21
    go_wp2
    go_ret
    exact ⟨ret_int (by rw [pickF_pos h']), rfl⟩
theorem pick7_n (c : Int) (n : Nat) (w : World) (hc : IsI c) (h0 : 0 < n) (h1 : n ≤ 100000000) : Calls Tryd.prog 21 #[.int .i64 c, .int .i64 ((n : Nat) : Int)] w fun e w' => ∃ k : Nat, e = .returned (.int .i64 ((k : Nat) : Int)) ∧ k < n ∧ pickF c n = (k : Int) ∧ w = w' :=
  (pick7_c c n w hc (by omega) (by omega)).mono fun e w' ⟨he, hw⟩ => by
    have hb := pickF_bd (c := c) (n := (n : Int)) (by omega)
    obtain ⟨k, hk⟩ : ∃ k : Nat, pickF c n = (k : Int) := ⟨(pickF c n).toNat, by omega⟩
    exact ⟨k, by rw [he, hk], by omega, hk, hw⟩
theorem pick8_c (c n : Int) (w : World) (hc : IsI c) (h0 : 0 < n) (h1 : n ≤ 100000000) : Calls Tryd.prog 22 #[.int .i64 c, .int .i64 n] w fun e w' => e = .returned (.int .i64 (pickF c n)) ∧ w = w' := by
  obtain ⟨h2, h3⟩ := hc
  by_cases h : c < 0
  · go_enter Tryd.func22, Tryd.ntmps22
    go_wp2
    go_ret
    exact ⟨ret_int (by rw [pickF_neg h, ← Int.neg_tmod, Int.tmod_eq_emod_of_nonneg (by omega)]), rfl⟩
  · have h' : 0 ≤ c := by omega
    go_enter Tryd.func22, Tryd.ntmps22
    go_wp2
    go_ret
    exact ⟨ret_int (by rw [pickF_pos h']), rfl⟩
theorem pick8_n (c : Int) (n : Nat) (w : World) (hc : IsI c) (h0 : 0 < n) (h1 : n ≤ 100000000) : Calls Tryd.prog 22 #[.int .i64 c, .int .i64 ((n : Nat) : Int)] w fun e w' => ∃ k : Nat, e = .returned (.int .i64 ((k : Nat) : Int)) ∧ k < n ∧ pickF c n = (k : Int) ∧ w = w' :=
  (pick8_c c n w hc (by omega) (by omega)).mono fun e w' ⟨he, hw⟩ => by
    have hb := pickF_bd (c := c) (n := (n : Int)) (by omega)
    obtain ⟨k, hk⟩ : ∃ k : Nat, pickF c n = (k : Int) := ⟨(pickF c n).toNat, by omega⟩
    exact ⟨k, by rw [he, hk], by omega, hk, hw⟩

end Go.Proofs.YtdjjkhefdalokaaDoor

/- The moves through a region that draws its order, one by one. -/
namespace Go.Proofs.YtdjjkhefdalokaaDoor
open Go.RowKit

section
variable {P : Program} {ops : Array Oper} {Q : Exit → Act → World → Prop} {md : Region.Mode} {S : World → Prop}
end

end Go.Proofs.YtdjjkhefdalokaaDoor

/- Contracts of the reference of package globe: Empty, put, Same. -/
namespace Go.Proofs.YtdjjkhefdalokaaDoor
open Go.RowKit

theorem rEmpty_c (w : World) : Calls Tryd.prog 37 #[] w (RetA w Globe.zeroL) := by
  have hmk := make24
  go_enter Tryd.func37, Tryd.ntmps37
  go_wp2
  refine bodyPost_ret (v := .agg #[.slice (some ⟨w.heap.size + 1, 0, none⟩) 24 24]) (by simp [results, Tryd.results37, go_sem]) rfl ⟨w.heap.size + 1, rfl, by omega, ?_, by (repeat' (first | (with_reducible assumption) | (with_reducible exact Ext.refl _) | (with_reducible refine Ext.alloc ?_ _) | (with_reducible refine Ext.drew ?_) | (with_reducible refine Ext.drewN ?_ _) | (with_reducible refine Ext.setCell ?_ ?_ _) | (with_reducible refine Ext.trans ?_ (by assumption)) | go_size))⟩
  have := RowsAt.new (w.alloc (.cells #[.slice (some ⟨w.heap.size + 1, 0, none⟩) 24 24] 39)) Globe.zeroL 3 rfl
  rwa [World.size_alloc] at this

theorem tmod_bd (x : Int) : -47 ≤ x.tmod 48 ∧ x.tmod 48 ≤ 47 := (modN_go x).2

theorem ne_of_at9 {l1 l2 : List Int} {k : Nat} (h : Globe.nth l1 k ≠ Globe.nth l2 k) : decide (l1 = l2) = false := by
  rw [decide_eq_false_iff_not]; intro e; exact h (by rw [e])
set_option maxHeartbeats 1000000 in
theorem rSame_c {w1 w2 : World} {a1 : Option Addr} {l1 : List Int} {n1 : Nat} (c1 : Nat) {v1 : Bool} {a2 : Option Addr} {l2 : List Int} {n2 : Nat} (c2 : Nat) {v2 : Bool} (w : World) (h1 : AA w1 a1 l1 n1 v1) (e1 : Ext w1 w) (h2 : AA w2 a2 l2 n2 v2) (e2 : Ext w2 w) :
    Calls Tryd.prog 17 #[.agg #[.slice a1 n1 c1], .agg #[.slice a2 n2 c2]] w fun e w' => e = .returned (.bool (decide (l1 = l2))) ∧ Ext w w' := by
  replace h1 := h1.ext e1
  replace h2 := h2.ext e2
  clear e1 e2
  obtain ⟨i1, hn1, hl1, -⟩ := h1
  obtain ⟨i2, hn2, hl2, -⟩ := h2
  by_cases hne : n1 = n2
  · subst hne
    rcases Nat.eq_zero_or_pos n1 with h0 | h0
    · subst h0
      obtain rfl := List.length_eq_zero_iff.1 hn1
      obtain rfl := List.length_eq_zero_iff.1 hn2
      clear i1 i2 hn1 hn2 hl1 hl2
      go_enter Tryd.func17, Tryd.ntmps17
      go_wp2_with fail
      refine wp_loop_rounds 1 ?_
      rw [rounds_succ]
      go_wp2_with fail
      go_ret
      exact ⟨rfl, by (repeat' (first | (with_reducible assumption) | (with_reducible exact Ext.refl _) | (with_reducible refine Ext.alloc ?_ _) | (with_reducible refine Ext.drew ?_) | (with_reducible refine Ext.drewN ?_ _) | (with_reducible refine Ext.setCell ?_ ?_ _) | (with_reducible refine Ext.trans ?_ (by assumption)) | go_size))⟩
    · have e1 : ∃ b off, a1 = some ⟨b, off, none⟩ ∧ ∀ i, i < n1 → w.cell? ⟨b, off + i, none⟩ = some (.int .i64 (Globe.nth l1 i)) := by
        rcases i1 with rfl | ⟨b, off, rfl, h⟩
        · simp at hn1; omega
        · exact ⟨b, off, rfl, fun i hi => h i (by omega)⟩
      have e2 : ∃ b off, a2 = some ⟨b, off, none⟩ ∧ ∀ i, i < n1 → w.cell? ⟨b, off + i, none⟩ = some (.int .i64 (Globe.nth l2 i)) := by
        rcases i2 with rfl | ⟨b, off, rfl, h⟩
        · simp at hn2; omega
        · exact ⟨b, off, rfl, fun i hi => h i (by omega)⟩
      obtain ⟨b1, o1, rfl, r1⟩ := e1
      obtain ⟨b2, o2, rfl, r2⟩ := e2
      have R1 := Lib.hid r1; clear r1
      have R2 := Lib.hid r2; clear r2
      have Hn1 := Lib.hid hn1; clear hn1
      have Hn2 := Lib.hid hn2; clear hn2
      clear i1 i2 hl2
      go_enter Tryd.func17, Tryd.ntmps17
      go_wp2_with fail
      refine wp_name (fun V => Ext w V ∧ V.cell? ⟨w.heap.size, 0, none⟩ = some (.slice (some ⟨b1, o1, none⟩) n1 c1) ∧ V.cell? ⟨w.heap.size + 1, 0, none⟩ = some (.slice (some ⟨b2, o2, none⟩) n1 c2)) ⟨by (repeat' (first | (with_reducible assumption) | (with_reducible exact Ext.refl _) | (with_reducible refine Ext.alloc ?_ _) | (with_reducible refine Ext.drew ?_) | (with_reducible refine Ext.drewN ?_ _) | (with_reducible refine Ext.setCell ?_ ?_ _) | (with_reducible refine Ext.trans ?_ (by assumption)) | go_size)), by simp [go_sem], by simp [go_sem]⟩ ?_
      rintro V ⟨hV, k1, k2⟩
      go_loopw [5] (fun p wr => ∃ k : Nat, k ≤ n1 ∧ p = .int .i64 k ∧ Hid (∀ j, j < k → Globe.nth l1 j = Globe.nth l2 j) ∧ Ext V wr) (fun p _ => n1 - (intOf p).toNat)
      case atStart => exact ⟨0, by omega, rfl, fun j hj => by omega, Ext.refl _⟩
      case round =>
        obtain ⟨k, hk, rfl, Hp, hE⟩ := hrel
        replace k1 := hE.cell k1
        replace k2 := hE.cell k2
        by_cases hlt : k < n1
        · have d1 : wr.cell? ⟨b1, o1 + k, none⟩ = some (.int .i64 (Globe.nth l1 k)) := hE.cell (hV.cell (R1.out k hlt))
          have d2 : wr.cell? ⟨b2, o2 + k, none⟩ = some (.int .i64 (Globe.nth l2 k)) := hE.cell (hV.cell (R2.out k hlt))
          have kk0 : (0 : Int) ≤ (k : Int) := by omega
          have kk1 : (k : Int) < (n1 : Int) := by omega
          generalize hx : Globe.nth l1 k = x at *
          generalize hy : Globe.nth l2 k = y at *
          have Hx := Lib.hid hx; clear hx
          have Hy := Lib.hid hy; clear hy
          by_cases hxy : x = y
          · subst hxy
            go_wp2_with fail
            go_quiet (fail)
            go_wp2_with fail
            go_roundw
            case rel => exact ⟨k + 1, by omega, by go_num, fun j hj => by
              rcases Nat.lt_or_ge j k with h | h
              · exact Hp.out j h
              · rw [show j = k by omega, Hx.out, Hy.out], by (repeat' (first | (with_reducible assumption) | (with_reducible exact Ext.refl _) | (with_reducible refine Ext.alloc ?_ _) | (with_reducible refine Ext.drew ?_) | (with_reducible refine Ext.drewN ?_ _) | (with_reducible refine Ext.setCell ?_ ?_ _) | (with_reducible refine Ext.trans ?_ (by assumption)) | go_size))⟩
            case measure => simp [intOf]; omega
          · go_wp2_with fail
            go_quiet (fail)
            go_wp2_with fail
            go_ret
            exact ⟨ret_bool (ne_of_at9 (k := k) (by rw [Hx.out, Hy.out]; exact hxy)).symm, by (repeat' (first | (with_reducible assumption) | (with_reducible exact Ext.refl _) | (with_reducible refine Ext.alloc ?_ _) | (with_reducible refine Ext.drew ?_) | (with_reducible refine Ext.drewN ?_ _) | (with_reducible refine Ext.setCell ?_ ?_ _) | (with_reducible refine Ext.trans ?_ (by assumption)) | go_size))⟩
        · obtain rfl : k = n1 := by omega
          go_wp2_with fail
          go_ret
          exact ⟨ret_bool (by rw [eq_comm, decide_eq_true_eq]; exact Globe.ext_nth (by rw [Hn1.out, Hn2.out]) fun j hj => Hp.out j (by rw [← Hn1.out]; exact hj)), by (repeat' (first | (with_reducible assumption) | (with_reducible exact Ext.refl _) | (with_reducible refine Ext.alloc ?_ _) | (with_reducible refine Ext.drew ?_) | (with_reducible refine Ext.drewN ?_ _) | (with_reducible refine Ext.setCell ?_ ?_ _) | (with_reducible refine Ext.trans ?_ (by assumption)) | go_size))⟩
  · have hd : decide (l1 = l2) = false := by
      rw [decide_eq_false_iff_not]; intro e; subst e; exact hne (by omega)
    have hni : ¬ (n1 : Int) = (n2 : Int) := by omega
    have Hd := Lib.hid hd; clear hd
    clear i1 i2 hn1 hn2
    go_enter Tryd.func17, Tryd.ntmps17
    go_wp2_with fail
    go_ret
    exact ⟨ret_bool (by rw [Hd.out]), by (repeat' (first | (with_reducible assumption) | (with_reducible exact Ext.refl _) | (with_reducible refine Ext.alloc ?_ _) | (with_reducible refine Ext.drew ?_) | (with_reducible refine Ext.drewN ?_ _) | (with_reducible refine Ext.setCell ?_ ?_ _) | (with_reducible refine Ext.trans ?_ (by assumption)) | go_size))⟩

end Go.Proofs.YtdjjkhefdalokaaDoor

/- The plain mathematics of the sun: noon, the season, the height. No program in sight. -/
namespace Go.Proofs.YtdjjkhefdalokaaDoor
namespace Sun

def minB (t : Int) : Bool := decide (0 ≤ t ∧ t ≤ 1000000)
theorem minB_t {t : Int} : minB t = true ↔ 0 ≤ t ∧ t ≤ 1000000 := by simp [minB]
theorem minB_f {t : Int} : minB t = false ↔ t < 0 ∨ 1000000 < t := by simp [minB]; omega

def noon (t : Int) : Int := (1440 - t % 1440) * 100 / 3 % 48000
def season (t : Int) : Int :=
  if t / 1440 % 360 ≤ 90 then 12000 + 100 * (t / 1440 % 360) / 3
  else if t / 1440 % 360 ≤ 270 then 12000 + 100 * (180 - t / 1440 % 360) / 3
  else 12000 + 100 * (t / 1440 % 360 - 360) / 3
theorem season_a {t : Int} (h : t / 1440 % 360 ≤ 90) : season t = 12000 + 100 * (t / 1440 % 360) / 3 := by rw [season, if_pos h]
theorem season_b {t : Int} (h : 90 < t / 1440 % 360) (h' : t / 1440 % 360 ≤ 270) : season t = 12000 + 100 * (180 - t / 1440 % 360) / 3 := by rw [season, if_neg (by omega), if_pos h']
theorem season_c {t : Int} (h : 270 < t / 1440 % 360) : season t = 12000 + 100 * (t / 1440 % 360 - 360) / 3 := by rw [season, if_neg (by omega), if_neg (by omega)]
def away (a b : Int) : Int := max (a - b) (b - a)
/-- The distance from noon, around. -/
def ac (x t : Int) : Int := min (away (1000 * x + 500) (noon t)) (48000 - away (1000 * x + 500) (noon t))
/-- The distance from the season. -/
def ds (y t : Int) : Int := away (1000 * y + 500) (season t)
def height (x y t : Int) : Int := max (-90) (90 - 75 * (ac x t + ds y t) / 10000)

theorem noon_bd {t : Int} (_h0 : 0 ≤ t) : 0 ≤ noon t ∧ noon t ≤ 47999 := by unfold noon; omega
theorem season_bd (t : Int) : 9000 ≤ season t ∧ season t ≤ 15000 := by unfold season; split <;> (try split) <;> omega
theorem away_bd {a b n : Int} (h1 : 0 ≤ a) (h2 : a ≤ n) (h3 : 0 ≤ b) (h4 : b ≤ n) : 0 ≤ away a b ∧ away a b ≤ n := by unfold away; omega
def litB (x y t : Int) : Bool := minB t && Globe.vcB x y && decide (0 < height x y t)
/-- How many minutes are searched from t on. -/
def nmin (t : Int) : Nat := (min (1000000 - t) 1440 + 1).toNat
def upto (t : Int) (k : Nat) : List Int := (List.range k).map fun (i : Nat) => t + (i : Int)
/-- The first minute as asked for, of those searched. -/
def next (x y t : Int) (lit : Bool) : Int := ((upto t (nmin t)).find? fun k => litB x y k == lit).getD (-1)

end Sun
end Go.Proofs.YtdjjkhefdalokaaDoor

/- The heights of the sun above what an exposure shows. -/
namespace Go.Proofs.YtdjjkhefdalokaaDoor
namespace Swath
def hgt (o : Orb) (s : Int × Int) (lk d : Int) (i : Nat) : Int := Sun.height ((sx o lk (s.1 + ((i : Nat) : Int) - d) : Nat) : Int) ((Orb.cy o (s.1 + ((i : Nat) : Int) - d) : Nat) : Int) (s.1 + ((i : Nat) : Int))
def mm (o : Orb) (s : Int × Int) (lk d : Int) : Nat → Int × Int
  | 0 => (90, -90)
  | n + 1 => (min (mm o s lk d n).1 (hgt o s lk d n), max (mm o s lk d n).2 (hgt o s lk d n))
def sunF (A : Nat → Int × Int) : Nat → Int × Int
  | 0 => (0, 0)
  | 1 => A 0
  | k + 2 => (min (sunF A (k + 1)).1 (A (k + 1)).1, max (sunF A (k + 1)).2 (A (k + 1)).2)
theorem sunF_succ {A : Nat → Int × Int} {i : Nat} (h : 0 < i) : sunF A (i + 1) = (min (sunF A i).1 (A i).1, max (sunF A i).2 (A i).2) := by
  obtain ⟨k, rfl⟩ : ∃ k, i = k + 1 := ⟨i - 1, by omega⟩
  rfl
def sunJ (o : Orb) (s : Int × Int) (lk : Int) (j : Nat) : Int × Int := mm o s lk (-o.sl + ((j : Nat) : Int)) (s.2 - s.1).toNat
def suns (o : Orb) (s : Int × Int) (lk : Int) : Int × Int := sunF (sunJ o s lk) (lates o)
end Swath
end Go.Proofs.YtdjjkhefdalokaaDoor

/- The first exposure that shows an area. -/
namespace Go.Proofs.YtdjjkhefdalokaaDoor
namespace Swath
open Globe
/-- The least number below n that P has. -/
def firstQ (P : Nat → Bool) : Nat → Option Nat
  | 0 => none
  | n + 1 => match firstQ P n with
    | some r => some r
    | none => if P n then some n else none
def NoHit (P : Nat → Bool) (n : Nat) : Prop := ∀ r, r < n → P r = false
theorem noHit_0 (P : Nat → Bool) : NoHit P 0 := fun _ h => absurd h (Nat.not_lt_zero _)
theorem NoHit.next {P : Nat → Bool} {n : Nat} (h : NoHit P n) (hn : P n = false) : NoHit P (n + 1) := fun r hr => by
  rcases Nat.lt_or_ge r n with q | q
  · exact h r q
  · obtain rfl : r = n := by omega
    exact hn
theorem NoHit.le {P : Nat → Bool} {n k : Nat} (h : NoHit P n) (e : k = n) : NoHit P k := e ▸ h
theorem first_none {P : Nat → Bool} : ∀ {n : Nat}, NoHit P n → firstQ P n = none
  | 0, _ => rfl
  | n + 1, h => by
    unfold firstQ
    rw [first_none (n := n) (fun r hr => h r (by omega))]
    simp [h n (by omega)]
theorem first_some {P : Nat → Bool} {r : Nat} : ∀ {n : Nat}, NoHit P r → P r = true → r < n → firstQ P n = some r
  | n + 1, h, hr, hn => by
    unfold firstQ
    rcases Nat.lt_or_ge r n with q | q
    · rw [first_some h hr q]
    · obtain rfl : r = n := by omega
      rw [first_none h]; simp [hr]
where first_noHit {P : Nat → Bool} : ∀ {n : Nat}, firstQ P n = none → NoHit P n
  | 0, _ => noHit_0 P
  | n + 1, h => by
    unfold firstQ at h
    cases e : firstQ P n with
    | some x => rw [e] at h; cases h
    | none =>
      rw [e] at h
      simp only at h
      by_cases q : P n = true
      · rw [if_pos q] at h; cases h
      · exact (first_noHit e).next (by simpa using q)
/-- The looks in the order in which they are tried. -/
def lkQ (q : Nat) : Int := if q % 2 = 0 then ((q / 2 : Nat) : Int) else -((q / 2 : Nat) : Int)
theorem lk_even (k : Nat) : lkQ (2 * k + 0) = ((k : Nat) : Int) := by unfold lkQ; rw [if_pos (by omega)]; congr 1; omega
theorem lk_odd (k : Nat) : lkQ (2 * k + 1) = -((k : Nat) : Int) := by unfold lkQ; rw [if_neg (by omega)]; congr 2; omega
/-- Does the r-th exposure that is tried show the area? -/
def bestP (o : Orb) (sp : Int × Int) (mi : Int) (wd : Nat) (l : List Int) (r : Nat) : Bool :=
  showsB o (sp.1 + ((r / (2 * wd + 2) : Nat) : Int), sp.1 + ((r / (2 * wd + 2) : Nat) : Int) + mi) (lkQ (r % (2 * wd + 2))) l
theorem best_at {o : Orb} {sp : Int × Int} {mi : Int} {wd : Nat} {l : List Int} {j x : Nat} (hx : x < 2 * wd + 2) : bestP o sp mi wd l (j * (2 * wd + 2) + x) = showsB o (sp.1 + ((j : Nat) : Int), sp.1 + ((j : Nat) : Int) + mi) (lkQ x) l := by
  unfold bestP
  have h1 : (j * (2 * wd + 2) + x) / (2 * wd + 2) = j := by rw [Nat.mul_comm, Nat.mul_add_div (by omega), Nat.div_eq_of_lt hx, Nat.add_zero]
  have h2 : (j * (2 * wd + 2) + x) % (2 * wd + 2) = x := by rw [Nat.mul_comm, Nat.mul_add_mod, Nat.mod_eq_of_lt hx]
  rw [h1, h2]
def starts (sp : Int × Int) (mi : Int) : Nat := (sp.2 - sp.1 - mi + 1).toNat
def bestR (o : Orb) (sp : Int × Int) (mi : Int) (wd : Nat) (l : List Int) : Option Nat := firstQ (bestP o sp mi wd l) (starts sp mi * (2 * wd + 2))
def bestF (sp : Int × Int) (mi : Int) (wd : Nat) : Option Nat → (Int × Int) × Int × Bool
  | some r => ((sp.1 + ((r / (2 * wd + 2) : Nat) : Int), sp.1 + ((r / (2 * wd + 2) : Nat) : Int) + mi), lkQ (r % (2 * wd + 2)), true)
  | none => ((0, 0), 0, false)
def best (o : Orb) (sp : Int × Int) (mi : Int) (wd : Nat) (l : List Int) : (Int × Int) × Int × Bool := bestF sp mi wd (bestR o sp mi wd l)
theorem bestF_at {sp : Int × Int} {mi : Int} {wd j x : Nat} (hx : x < 2 * wd + 2) : bestF sp mi wd (some (j * (2 * wd + 2) + x)) = ((sp.1 + ((j : Nat) : Int), sp.1 + ((j : Nat) : Int) + mi), lkQ x, true) := by
  unfold bestF
  have h1 : (j * (2 * wd + 2) + x) / (2 * wd + 2) = j := by rw [Nat.mul_comm, Nat.mul_add_div (by omega), Nat.div_eq_of_lt hx, Nat.add_zero]
  have h2 : (j * (2 * wd + 2) + x) % (2 * wd + 2) = x := by rw [Nat.mul_comm, Nat.mul_add_mod, Nat.mod_eq_of_lt hx]
  simp only [h1, h2]
theorem best_hit {o : Orb} {sp : Int × Int} {mi : Int} {wd : Nat} {l : List Int} {j x : Nat} (hx : x < 2 * wd + 2) (hj : j < starts sp mi) (h : NoHit (bestP o sp mi wd l) (j * (2 * wd + 2) + x)) (hs : showsB o (sp.1 + ((j : Nat) : Int), sp.1 + ((j : Nat) : Int) + mi) (lkQ x) l = true) :
    best o sp mi wd l = ((sp.1 + ((j : Nat) : Int), sp.1 + ((j : Nat) : Int) + mi), lkQ x, true) := by
  unfold best bestR
  have hlt : j * (2 * wd + 2) + x < starts sp mi * (2 * wd + 2) := by
    have := Nat.mul_le_mul_right (2 * wd + 2) (show j + 1 ≤ starts sp mi from hj)
    rw [Nat.succ_mul] at this; omega
  rw [first_some h (by rw [best_at hx]; exact hs) hlt, bestF_at hx]
theorem best_no {o : Orb} {sp : Int × Int} {mi : Int} {wd : Nat} {l : List Int} (h : NoHit (bestP o sp mi wd l) (starts sp mi * (2 * wd + 2))) : best o sp mi wd l = ((0, 0), 0, false) := by
  unfold best bestR
  rw [first_none h]; rfl
end Swath
end Go.Proofs.YtdjjkhefdalokaaDoor
