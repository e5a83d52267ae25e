/- Part 5 of what the proof of TopProduct stands on. -/
import Derived.Test.YtajdohcgjgknmaaGreatDoorV4TopProduct
import Derived.ArgAppend
import Derived.Stop.RegionWithIn
import Derived.WalkMore
import Derived.Test.YtajdohcgjgknmaaGreatDoorTie
import Derived.Test.YtajdohcgjgknmaaGreatDoorCards
import Derived.ProofKit
import Derived.OpenShut
import Derived.ChangeOld
import Derived.LaidMore
import Derived.Stop.Joined
import Derived.Stop.LaidErr
import Derived.Lib.LaidTab
import Derived.SevenTiedAt
import Derived.Deep.Slices
/- Contract of package swath: the fold of the strips of all delays. -/
namespace Go.Proofs.YtajdohcgjgknmaaGreatDoor
open Go.RowKit

def FoldAt (O n₀ : Nat) (A : Nat → List Int) (i : Nat) (W : World) : Prop :=
  (i = 0 ∧ BoxAt W O 0 (.slice none 0 0) ∧ BoxAt W O 1 (.slice none 0 0)) ∨
  (0 < i ∧ ∃ A1 A2 c1 c2 : Nat, BoxAt W O 0 (.slice (some ⟨A1, 0, none⟩) 24 c1) ∧ BoxAt W O 1 (.slice (some ⟨A2, 0, none⟩) 24 c2) ∧ n₀ ≤ A1 ∧ n₀ ≤ A2 ∧ A1 ≠ A2 ∧ RowsAt W A1 (Swath.foldM A i) ∧ RowsAt W A2 (Swath.foldU A i))
theorem FoldAt.mv {O n₀ n₁ i : Nat} {A : Nat → List Int} {W V : World} (h : FoldAt O n₀ A i W) (m : Mv n₁ W V) : FoldAt O n₀ A i V := by
  rcases h with ⟨h0, b0, b1⟩ | ⟨h0, A1, A2, c1, c2, b0, b1, l1, l2, ne, r1, r2⟩
  · exact .inl ⟨h0, m.box b0, m.box b1⟩
  · exact .inr ⟨h0, A1, A2, c1, c2, m.box b0, m.box b1, l1, l2, ne, m.rows r1, m.rows r2⟩
theorem fold_first {O n₀ i B g c1 c2 : Nat} {A : Nat → List Int} {W : World} (h : i = 0) (b0 : BoxAt W O 0 (.slice (some ⟨B, 0, none⟩) 24 c1)) (b1 : BoxAt W O 1 (.slice (some ⟨g, 0, none⟩) 24 c2)) (l1 : n₀ ≤ B) (l2 : n₀ ≤ g) (ne : B ≠ g) (r1 : RowsAt W B (A i)) (r2 : RowsAt W g (A i)) : FoldAt O n₀ A (i + 1) W := by
  subst h
  exact .inr ⟨Nat.succ_pos _, B, g, c1, c2, b0, b1, l1, l2, ne, r1, r2⟩
theorem fold_next {O n₀ i A1 A2 c1 c2 : Nat} {A : Nat → List Int} {W : World} (h : 0 < i) (b0 : BoxAt W O 0 (.slice (some ⟨A1, 0, none⟩) 24 c1)) (b1 : BoxAt W O 1 (.slice (some ⟨A2, 0, none⟩) 24 c2)) (l1 : n₀ ≤ A1) (l2 : n₀ ≤ A2) (ne : A1 ≠ A2) (r1 : RowsAt W A1 (Globe.meetL (Swath.foldM A i) (A i))) (r2 : RowsAt W A2 (Globe.unionL (Swath.foldU A i) (A i))) : FoldAt O n₀ A (i + 1) W :=
  .inr ⟨Nat.succ_pos _, A1, A2, c1, c2, b0, b1, l1, l2, ne, by rw [Swath.foldM_succ h]; exact r1, by rw [Swath.foldU_succ h]; exact r2⟩
set_option maxRecDepth 1000000 in
set_option maxHeartbeats 4000000 in
theorem foldS_c {w0 : World} {Bo Bs Bl : Nat} {o : Orb} {s : Int × Int} {lk : Int} (w : World) (hS : StAt w0 Bo Bs Bl o s lk) (e0 : Ext w0 w) (hv : Swath.shB o s lk = true) :
    Calls Tryz.prog 44 #[.agg #[.int .i64 o.p, .int .i64 o.f, .int .i64 o.lo, .int .i64 o.hi, .int .i64 o.nd, .int .i64 o.tn, .int .i64 o.sl], .func (.func 41) #[] #[.pointer (some ⟨Bo, 0, none⟩), .pointer (some ⟨Bs, 0, none⟩), .pointer (some ⟨Bl, 0, none⟩)], .func (.func 45) #[] #[], .func (.func 43) #[] #[]] w (RetSt w (Swath.sureL o s lk) (Swath.canL o s lk)) := by
  obtain ⟨hok, ⟨sp0, sp1, sp2, sp3⟩, hl0, hl1⟩ := Swath.shB_t.1 hv
  have hq0 := Orb.ok_t.1 hok
  have hN : Swath.lates o = (2 * o.sl + 1).toNat := rfl
  refine icalls_cw 31 [(3, .func (.func 43) #[] #[]), (2, .func (.func 45) #[] #[]), (1, .func (.func 41) #[] #[.pointer (some ⟨Bo, 0, none⟩), .pointer (some ⟨Bs, 0, none⟩), .pointer (some ⟨Bl, 0, none⟩)]), (0, .agg #[.int .i64 (o.p : Int), .int .i64 (o.f : Int), .int .i64 (o.lo : Int), .int .i64 (o.hi : Int), .int .i64 (o.nd : Int), .int .i64 (o.tn : Int), .int .i64 (o.sl : Int)])] Tryz.func44 rfl Tryz.ntmps44 (by kernel_rfl) (by kernel_rfl) (fun L mm => ?_)
  have hE : Ext w w := Ext.refl w
  refine icw_seq ?_
  refine icw_plain ?_
  refine ipl_step rfl (by kernel_rfl) (by kernel_rfl) (by kernel_rfl) (sn_new (us := #[.int .i64 (o.p : Int), .int .i64 (o.f : Int), .int .i64 (o.lo : Int), .int .i64 (o.hi : Int), .int .i64 (o.nd : Int), .int .i64 (o.tn : Int), .int .i64 (o.sl : Int)]) (t := 26) (by kernel_rfl) ?_)
  intro O1 X2 hO hOs hb hbx
  have hzO1 := hO; have hyO1 := hOs; clear hO hOs
  have bO1_0 : BoxAt X2 O1 0 (.int .i64 (o.p : Int)) := hbx 0 _ rfl
  have bO1_1 : BoxAt X2 O1 1 (.int .i64 (o.f : Int)) := hbx 1 _ rfl
  have bO1_2 : BoxAt X2 O1 2 (.int .i64 (o.lo : Int)) := hbx 2 _ rfl
  have bO1_3 : BoxAt X2 O1 3 (.int .i64 (o.hi : Int)) := hbx 3 _ rfl
  have bO1_4 : BoxAt X2 O1 4 (.int .i64 (o.nd : Int)) := hbx 4 _ rfl
  have bO1_5 : BoxAt X2 O1 5 (.int .i64 (o.tn : Int)) := hbx 5 _ rfl
  have bO1_6 : BoxAt X2 O1 6 (.int .i64 (o.sl : Int)) := hbx 6 _ rfl
  clear hbx
  replace hE := hE.trans hb
  have hs3 := hb.size
  clear hb
  have lt4 := bO1_0.lt
  refine ipl_step rfl (by kernel_rfl) (by kernel_rfl) (by kernel_rfl) (sn_new (us := #[.func (.func 41) #[] #[.pointer (some ⟨Bo, 0, none⟩), .pointer (some ⟨Bs, 0, none⟩), .pointer (some ⟨Bl, 0, none⟩)]]) (t := 79) (by kernel_rfl) ?_)
  intro O5 X6 hO hOs hb hbx
  have hzO5 := hO; have hyO5 := hOs; clear hO hOs
  have bO5_0 : BoxAt X6 O5 0 (.func (.func 41) #[] #[.pointer (some ⟨Bo, 0, none⟩), .pointer (some ⟨Bs, 0, none⟩), .pointer (some ⟨Bl, 0, none⟩)]) := hbx 0 _ rfl
  clear hbx
  replace hE := hE.trans hb
  replace bO1_0 := BoxAt.ext hb bO1_0
  replace bO1_1 := BoxAt.ext hb bO1_1
  replace bO1_2 := BoxAt.ext hb bO1_2
  replace bO1_3 := BoxAt.ext hb bO1_3
  replace bO1_4 := BoxAt.ext hb bO1_4
  replace bO1_5 := BoxAt.ext hb bO1_5
  replace bO1_6 := BoxAt.ext hb bO1_6
  have hs7 := hb.size
  clear hb
  have lt8 := bO5_0.lt
  refine ipl_step rfl (by kernel_rfl) (by kernel_rfl) (by kernel_rfl) (sn_new (us := #[.func (.func 45) #[] #[]]) (t := 82) (by kernel_rfl) ?_)
  intro O9 X10 hO hOs hb hbx
  have hzO9 := hO; have hyO9 := hOs; clear hO hOs
  have bO9_0 : BoxAt X10 O9 0 (.func (.func 45) #[] #[]) := hbx 0 _ rfl
  clear hbx
  replace hE := hE.trans hb
  replace bO1_0 := BoxAt.ext hb bO1_0
  replace bO1_1 := BoxAt.ext hb bO1_1
  replace bO1_2 := BoxAt.ext hb bO1_2
  replace bO1_3 := BoxAt.ext hb bO1_3
  replace bO1_4 := BoxAt.ext hb bO1_4
  replace bO1_5 := BoxAt.ext hb bO1_5
  replace bO1_6 := BoxAt.ext hb bO1_6
  replace bO5_0 := BoxAt.ext hb bO5_0
  have hs11 := hb.size
  clear hb
  have lt12 := bO9_0.lt
  refine ipl_step rfl (by kernel_rfl) (by kernel_rfl) (by kernel_rfl) (sn_new (us := #[.func (.func 43) #[] #[]]) (t := 80) (by kernel_rfl) ?_)
  intro O13 X14 hO hOs hb hbx
  have hzO13 := hO; have hyO13 := hOs; clear hO hOs
  have bO13_0 : BoxAt X14 O13 0 (.func (.func 43) #[] #[]) := hbx 0 _ rfl
  clear hbx
  replace hE := hE.trans hb
  replace bO1_0 := BoxAt.ext hb bO1_0
  replace bO1_1 := BoxAt.ext hb bO1_1
  replace bO1_2 := BoxAt.ext hb bO1_2
  replace bO1_3 := BoxAt.ext hb bO1_3
  replace bO1_4 := BoxAt.ext hb bO1_4
  replace bO1_5 := BoxAt.ext hb bO1_5
  replace bO1_6 := BoxAt.ext hb bO1_6
  replace bO5_0 := BoxAt.ext hb bO5_0
  replace bO9_0 := BoxAt.ext hb bO9_0
  have hs15 := hb.size
  clear hb
  have lt16 := bO13_0.lt
  refine ipl_step rfl (by kernel_rfl) (by kernel_rfl) (by kernel_rfl) (sn_new (us := #[.slice none 0 0, .slice none 0 0]) (t := 40) (by kernel_rfl) ?_)
  intro O17 X18 hO hOs hb hbx
  have hzO17 := hO; have hyO17 := hOs; clear hO hOs
  have bO17_0 : BoxAt X18 O17 0 (.slice none 0 0) := hbx 0 _ rfl
  have bO17_1 : BoxAt X18 O17 1 (.slice none 0 0) := hbx 1 _ rfl
  clear hbx
  replace hE := hE.trans hb
  replace bO1_0 := BoxAt.ext hb bO1_0
  replace bO1_1 := BoxAt.ext hb bO1_1
  replace bO1_2 := BoxAt.ext hb bO1_2
  replace bO1_3 := BoxAt.ext hb bO1_3
  replace bO1_4 := BoxAt.ext hb bO1_4
  replace bO1_5 := BoxAt.ext hb bO1_5
  replace bO1_6 := BoxAt.ext hb bO1_6
  replace bO5_0 := BoxAt.ext hb bO5_0
  replace bO9_0 := BoxAt.ext hb bO9_0
  replace bO13_0 := BoxAt.ext hb bO13_0
  have hs19 := hb.size
  clear hb
  have lt20 := bO17_0.lt
  refine ipl_nil ?_
  refine iqw_then ?_
  refine icw_seq ?_
  refine icw_plain ?_
  refine ipl_step rfl (by kernel_rfl) (by kernel_rfl) (by kernel_rfl) (sn_new (us := #[.slice none 0 0, .slice none 0 0]) (t := 40) (by kernel_rfl) ?_)
  intro O21 X22 hO hOs hb hbx
  have hzO21 := hO; have hyO21 := hOs; clear hO hOs
  have bO21_0 : BoxAt X22 O21 0 (.slice none 0 0) := hbx 0 _ rfl
  have bO21_1 : BoxAt X22 O21 1 (.slice none 0 0) := hbx 1 _ rfl
  clear hbx
  replace hE := hE.trans hb
  replace bO1_0 := BoxAt.ext hb bO1_0
  replace bO1_1 := BoxAt.ext hb bO1_1
  replace bO1_2 := BoxAt.ext hb bO1_2
  replace bO1_3 := BoxAt.ext hb bO1_3
  replace bO1_4 := BoxAt.ext hb bO1_4
  replace bO1_5 := BoxAt.ext hb bO1_5
  replace bO1_6 := BoxAt.ext hb bO1_6
  replace bO5_0 := BoxAt.ext hb bO5_0
  replace bO9_0 := BoxAt.ext hb bO9_0
  replace bO13_0 := BoxAt.ext hb bO13_0
  replace bO17_0 := BoxAt.ext hb bO17_0
  replace bO17_1 := BoxAt.ext hb bO17_1
  have hs23 := hb.size
  clear hb
  have lt24 := bO21_0.lt
  refine ipl_nil ?_
  refine iqw_then ?_
  refine icw_seq ?_
  refine icw_seq ?_
  refine icw_plain ?_
  refine ipl_take (.agg #[.int .i64 (o.p : Int), .int .i64 (o.f : Int), .int .i64 (o.lo : Int), .int .i64 (o.hi : Int), .int .i64 (o.nd : Int), .int .i64 (o.tn : Int), .int .i64 (o.sl : Int)]) rfl (by kernel_rfl) (by kernel_rfl) (by kernel_rfl) (ex_load rfl (by kernel_rfl) (ld26 (bO1_0.1) (bO1_1.1) (bO1_2.1) (bO1_3.1) (bO1_4.1) (bO1_5.1) (bO1_6.1))) ?_
  refine ipl_step rfl (by kernel_rfl) (by kernel_rfl) (by kernel_rfl) (sn_call (f := 97) (args := #[.agg #[.int .i64 (o.p : Int), .int .i64 (o.f : Int), .int .i64 (o.lo : Int), .int .i64 (o.hi : Int), .int .i64 (o.nd : Int), .int .i64 (o.tn : Int), .int .i64 (o.sl : Int)]]) (by kernel_rfl) ((delays_c o _).mono ?_))
  rintro e w28 ⟨B25, rfl, hn26, hc27, hb⟩
  replace hE := hE.trans hb
  replace bO1_0 := BoxAt.ext hb bO1_0
  replace bO1_1 := BoxAt.ext hb bO1_1
  replace bO1_2 := BoxAt.ext hb bO1_2
  replace bO1_3 := BoxAt.ext hb bO1_3
  replace bO1_4 := BoxAt.ext hb bO1_4
  replace bO1_5 := BoxAt.ext hb bO1_5
  replace bO1_6 := BoxAt.ext hb bO1_6
  replace bO5_0 := BoxAt.ext hb bO5_0
  replace bO9_0 := BoxAt.ext hb bO9_0
  replace bO13_0 := BoxAt.ext hb bO13_0
  replace bO17_0 := BoxAt.ext hb bO17_0
  replace bO17_1 := BoxAt.ext hb bO17_1
  replace bO21_0 := BoxAt.ext hb bO21_0
  replace bO21_1 := BoxAt.ext hb bO21_1
  have hs29 := hb.size
  clear hb
  have lt30 := World.block_lt_of_cell? _ _ hc27
  refine ⟨_, rfl, ?_⟩
  refine ipl_nil ?_
  refine iqw_then ?_
  refine icw_block ?_
  refine icw_range (ps := [14]) (by kernel_rfl) (enters_of Tryz.func130 (by kernel_rfl) rfl) (delays_seq (X := fun k => k = O21 ∨ w28.heap.size ≤ k) hok (fun h => h.elim (Nat.ne_of_gt (Nat.lt_of_lt_of_le lt24 hn26)) (fun q => absurd (Nat.lt_of_lt_of_le lt30 (Nat.le_refl _)) (Nat.not_lt_of_le q))) hc27) (Ext.refl _) (fun _ => rfl) (by kernel_rfl) (fun i W => w28.heap.size ≤ W.heap.size ∧ Ext w W ∧ BoxAt W O1 0 (.int .i64 (o.p : Int)) ∧ BoxAt W O1 1 (.int .i64 (o.f : Int)) ∧ BoxAt W O1 2 (.int .i64 (o.lo : Int)) ∧ BoxAt W O1 3 (.int .i64 (o.hi : Int)) ∧ BoxAt W O1 4 (.int .i64 (o.nd : Int)) ∧ BoxAt W O1 5 (.int .i64 (o.tn : Int)) ∧ BoxAt W O1 6 (.int .i64 (o.sl : Int)) ∧ BoxAt W O5 0 (.func (.func 41) #[] #[.pointer (some ⟨Bo, 0, none⟩), .pointer (some ⟨Bs, 0, none⟩), .pointer (some ⟨Bl, 0, none⟩)]) ∧ BoxAt W O9 0 (.func (.func 45) #[] #[]) ∧ BoxAt W O13 0 (.func (.func 43) #[] #[]) ∧ BoxAt W O17 0 (.slice none 0 0) ∧ BoxAt W O17 1 (.slice none 0 0) ∧ W.cell? ⟨B25, 6, none⟩ = some (.int .i64 (o.sl : Int)) ∧ FoldAt O21 w28.heap.size (Swath.areaJ o s lk) i W) (fun _ _ _ => False) (fun i A B h hm => by obtain ⟨hsz, hE, bO1_0, bO1_1, bO1_2, bO1_3, bO1_4, bO1_5, bO1_6, bO5_0, bO9_0, bO13_0, bO17_0, bO17_1, hc27, hF⟩ := h; exact ⟨Nat.le_trans hsz hm.size, hm.ext hE (Nat.le_trans hs3 (Nat.le_trans hs7 (Nat.le_trans hs11 (Nat.le_trans hs15 (Nat.le_trans hs19 (Nat.le_trans hs23 hs29)))))), hm.box bO1_0, hm.box bO1_1, hm.box bO1_2, hm.box bO1_3, hm.box bO1_4, hm.box bO1_5, hm.box bO1_6, hm.box bO5_0, hm.box bO9_0, hm.box bO13_0, hm.box bO17_0, hm.box bO17_1, hm.cell hc27, (hF).mv hm⟩) (fun _ _ _ _ h _ => h.elim) ⟨Nat.le_refl _, hE, bO1_0, bO1_1, bO1_2, bO1_3, bO1_4, bO1_5, bO1_6, bO5_0, bO9_0, bO13_0, bO17_0, bO17_1, hc27, (.inl ⟨rfl, bO21_0, bO21_1⟩)⟩ ?_ ?_ ?_
  ·
    clear bO1_0 bO1_1 bO1_2 bO1_3 bO1_4 bO1_5 bO1_6 bO5_0 bO9_0 bO13_0 bO17_0 bO17_1 bO21_0 bO21_1 hc27 hE
    intro l33 k34 i w31 hii h _
    obtain ⟨hs32, hE, bO1_0, bO1_1, bO1_2, bO1_3, bO1_4, bO1_5, bO1_6, bO5_0, bO9_0, bO13_0, bO17_0, bO17_1, hc27, hF⟩ := h
    refine icw_clean [4, 5, 6, 7, 9, 14] (ws' := [(4, .pointer (some ⟨O1, 0, none⟩)), (5, .pointer (some ⟨O5, 0, none⟩)), (6, .pointer (some ⟨O9, 0, none⟩)), (7, .pointer (some ⟨O13, 0, none⟩)), (9, .pointer (some ⟨O21, 0, none⟩)), (14, .int .i64 (-o.sl + ((i : Nat) : Int) : Int))]) (by kernel_rfl) (fun L => ?_)
    have hrk35 : RK w28.heap.size (fun k => k = O21 ∨ w28.heap.size ≤ k) w31 w31 := RK.refl _ _ _
    refine icw_plain ?_
    refine ipl_take (.int .i64 (-o.sl + ((i : Nat) : Int) : Int)) rfl (by kernel_rfl) (by kernel_rfl) (by kernel_rfl) (by kernel_rfl) ?_
    refine ipl_nil ?_
    refine iqw_asg hrk35 (fun w37 hm36 => ?_)
    replace hE := hm36.ext hE (Nat.le_trans hs3 (Nat.le_trans hs7 (Nat.le_trans hs11 (Nat.le_trans hs15 (Nat.le_trans hs19 (Nat.le_trans hs23 hs29))))))
    replace bO1_0 := hm36.box bO1_0
    replace bO1_1 := hm36.box bO1_1
    replace bO1_2 := hm36.box bO1_2
    replace bO1_3 := hm36.box bO1_3
    replace bO1_4 := hm36.box bO1_4
    replace bO1_5 := hm36.box bO1_5
    replace bO1_6 := hm36.box bO1_6
    replace bO5_0 := hm36.box bO5_0
    replace bO9_0 := hm36.box bO9_0
    replace bO13_0 := hm36.box bO13_0
    replace bO17_0 := hm36.box bO17_0
    replace bO17_1 := hm36.box bO17_1
    replace hc27 := hm36.cell hc27
    replace hF := (hF).mv hm36
    have hs38 := hm36.size
    have hrk39 : RK w28.heap.size (fun k => k = O21 ∨ w28.heap.size ≤ k) w37 w37 := RK.refl _ _ _
    refine icw_block ?_
    refine icw_seq ?_
    have hd9 : Globe.inB (-o.sl + ((i : Nat) : Int)) (-o.sl) o.sl = true := Globe.inB_t.2 ⟨by omega, by omega⟩
    rcases hF with ⟨hi0, z0, z1⟩ | ⟨hi0, A1, A2, c1, c2, z0, z1, la1, la2, na, ra1, ra2⟩
    ·
      refine icw_plain ?_
      refine ipl_take (.func (.func 41) #[] #[.pointer (some ⟨Bo, 0, none⟩), .pointer (some ⟨Bs, 0, none⟩), .pointer (some ⟨Bl, 0, none⟩)]) rfl (by kernel_rfl) (by kernel_rfl) (by kernel_rfl) (ex_load rfl (by kernel_rfl) (ld79 (bO5_0.1))) ?_
      refine ipl_take (.int .i64 (-o.sl + ((i : Nat) : Int) : Int)) rfl (by kernel_rfl) (by kernel_rfl) (by kernel_rfl) (by kernel_rfl) ?_
      refine ipl_step rfl (by kernel_rfl) (by kernel_rfl) (by kernel_rfl) (sn_call (f := 41) (args := #[.int .i64 (-o.sl + ((i : Nat) : Int) : Int), .pointer (some ⟨Bo, 0, none⟩), .pointer (some ⟨Bs, 0, none⟩), .pointer (some ⟨Bl, 0, none⟩)]) (by kernel_rfl) ((value_c (-o.sl + ((i : Nat) : Int)) _ hS (e0.trans hE) hv hd9).mono ?_))
      rintro e w49 ⟨B40, g41, k42, k43, rfl, hn44, hn45, hne46, hr47, hr48, hb⟩
      replace hE := hE.trans hb
      replace bO1_0 := BoxAt.ext hb bO1_0
      replace bO1_1 := BoxAt.ext hb bO1_1
      replace bO1_2 := BoxAt.ext hb bO1_2
      replace bO1_3 := BoxAt.ext hb bO1_3
      replace bO1_4 := BoxAt.ext hb bO1_4
      replace bO1_5 := BoxAt.ext hb bO1_5
      replace bO1_6 := BoxAt.ext hb bO1_6
      replace bO5_0 := BoxAt.ext hb bO5_0
      replace bO9_0 := BoxAt.ext hb bO9_0
      replace bO13_0 := BoxAt.ext hb bO13_0
      replace bO17_0 := BoxAt.ext hb bO17_0
      replace bO17_1 := BoxAt.ext hb bO17_1
      replace hc27 := hb.cell hc27
      replace hrk39 := hrk39.ext hb
      replace z0 := BoxAt.ext hb z0
      replace z1 := BoxAt.ext hb z1
      have hs50 := hb.size
      clear hb
      have lt51 := hr47.lt
      have lt52 := hr48.lt
      have hne46h := Lib.hid hne46
      refine ⟨_, rfl, ?_⟩
      refine ipl_step rfl (by kernel_rfl) (by kernel_rfl) (by kernel_rfl) (sn_new (us := #[.slice none 0 0, .slice none 0 0]) (t := 40) (by kernel_rfl) ?_)
      intro O53 X54 hO hOs hb hbx
      have hzO53 := hO; have hyO53 := hOs; clear hO hOs
      have bO53_0 : BoxAt X54 O53 0 (.slice none 0 0) := hbx 0 _ rfl
      have bO53_1 : BoxAt X54 O53 1 (.slice none 0 0) := hbx 1 _ rfl
      clear hbx
      replace hE := hE.trans hb
      replace bO1_0 := BoxAt.ext hb bO1_0
      replace bO1_1 := BoxAt.ext hb bO1_1
      replace bO1_2 := BoxAt.ext hb bO1_2
      replace bO1_3 := BoxAt.ext hb bO1_3
      replace bO1_4 := BoxAt.ext hb bO1_4
      replace bO1_5 := BoxAt.ext hb bO1_5
      replace bO1_6 := BoxAt.ext hb bO1_6
      replace bO5_0 := BoxAt.ext hb bO5_0
      replace bO9_0 := BoxAt.ext hb bO9_0
      replace bO13_0 := BoxAt.ext hb bO13_0
      replace bO17_0 := BoxAt.ext hb bO17_0
      replace bO17_1 := BoxAt.ext hb bO17_1
      replace hc27 := hb.cell hc27
      replace hrk39 := hrk39.ext hb
      replace z0 := BoxAt.ext hb z0
      replace z1 := BoxAt.ext hb z1
      replace hr47 := hr47.ext hb
      replace hr48 := hr48.ext hb
      have hs55 := hb.size
      clear hb
      have lt56 := bO53_0.lt
      refine ipl_put rfl (by kernel_rfl) (by kernel_rfl) (sn_set2 (O := O53) (j := 0) (v := .slice (some ⟨B40, 0, none⟩) 24 k42) (v' := .slice (some ⟨g41, 0, none⟩) 24 k43) (ex_store (p := .pointer (some ⟨O53, 0, none⟩)) (v := .agg #[.slice (some ⟨B40, 0, none⟩) 24 k42, .slice (some ⟨g41, 0, none⟩) 24 k43]) rfl (by kernel_rfl) (by kernel_rfl) (st40 bO53_0.1 bO53_0.2 bO53_1.1 bO53_1.2)) bO53_0 bO53_1 ?_)
      intro X57 ho hv0 hv1 hk
      replace hE := ho.ext hE (Nat.le_trans (Nat.le_trans hs3 (Nat.le_trans hs7 (Nat.le_trans hs11 (Nat.le_trans hs15 (Nat.le_trans hs19 (Nat.le_trans hs23 (Nat.le_trans hs29 (Nat.le_trans hs32 (Nat.le_trans hs38 hs50))))))))) (Nat.le_of_eq hzO53))
      replace bO1_0 := ho.box (Nat.ne_of_gt (Nat.lt_of_lt_of_le lt4 (Nat.le_trans (Nat.le_trans hs7 (Nat.le_trans hs11 (Nat.le_trans hs15 (Nat.le_trans hs19 (Nat.le_trans hs23 (Nat.le_trans hs29 (Nat.le_trans hs32 (Nat.le_trans hs38 hs50)))))))) (Nat.le_of_eq hzO53)))) bO1_0
      replace bO1_1 := ho.box (Nat.ne_of_gt (Nat.lt_of_lt_of_le lt4 (Nat.le_trans (Nat.le_trans hs7 (Nat.le_trans hs11 (Nat.le_trans hs15 (Nat.le_trans hs19 (Nat.le_trans hs23 (Nat.le_trans hs29 (Nat.le_trans hs32 (Nat.le_trans hs38 hs50)))))))) (Nat.le_of_eq hzO53)))) bO1_1
      replace bO1_2 := ho.box (Nat.ne_of_gt (Nat.lt_of_lt_of_le lt4 (Nat.le_trans (Nat.le_trans hs7 (Nat.le_trans hs11 (Nat.le_trans hs15 (Nat.le_trans hs19 (Nat.le_trans hs23 (Nat.le_trans hs29 (Nat.le_trans hs32 (Nat.le_trans hs38 hs50)))))))) (Nat.le_of_eq hzO53)))) bO1_2
      replace bO1_3 := ho.box (Nat.ne_of_gt (Nat.lt_of_lt_of_le lt4 (Nat.le_trans (Nat.le_trans hs7 (Nat.le_trans hs11 (Nat.le_trans hs15 (Nat.le_trans hs19 (Nat.le_trans hs23 (Nat.le_trans hs29 (Nat.le_trans hs32 (Nat.le_trans hs38 hs50)))))))) (Nat.le_of_eq hzO53)))) bO1_3
      replace bO1_4 := ho.box (Nat.ne_of_gt (Nat.lt_of_lt_of_le lt4 (Nat.le_trans (Nat.le_trans hs7 (Nat.le_trans hs11 (Nat.le_trans hs15 (Nat.le_trans hs19 (Nat.le_trans hs23 (Nat.le_trans hs29 (Nat.le_trans hs32 (Nat.le_trans hs38 hs50)))))))) (Nat.le_of_eq hzO53)))) bO1_4
      replace bO1_5 := ho.box (Nat.ne_of_gt (Nat.lt_of_lt_of_le lt4 (Nat.le_trans (Nat.le_trans hs7 (Nat.le_trans hs11 (Nat.le_trans hs15 (Nat.le_trans hs19 (Nat.le_trans hs23 (Nat.le_trans hs29 (Nat.le_trans hs32 (Nat.le_trans hs38 hs50)))))))) (Nat.le_of_eq hzO53)))) bO1_5
      replace bO1_6 := ho.box (Nat.ne_of_gt (Nat.lt_of_lt_of_le lt4 (Nat.le_trans (Nat.le_trans hs7 (Nat.le_trans hs11 (Nat.le_trans hs15 (Nat.le_trans hs19 (Nat.le_trans hs23 (Nat.le_trans hs29 (Nat.le_trans hs32 (Nat.le_trans hs38 hs50)))))))) (Nat.le_of_eq hzO53)))) bO1_6
      replace bO5_0 := ho.box (Nat.ne_of_gt (Nat.lt_of_lt_of_le lt8 (Nat.le_trans (Nat.le_trans hs11 (Nat.le_trans hs15 (Nat.le_trans hs19 (Nat.le_trans hs23 (Nat.le_trans hs29 (Nat.le_trans hs32 (Nat.le_trans hs38 hs50))))))) (Nat.le_of_eq hzO53)))) bO5_0
      replace bO9_0 := ho.box (Nat.ne_of_gt (Nat.lt_of_lt_of_le lt12 (Nat.le_trans (Nat.le_trans hs15 (Nat.le_trans hs19 (Nat.le_trans hs23 (Nat.le_trans hs29 (Nat.le_trans hs32 (Nat.le_trans hs38 hs50)))))) (Nat.le_of_eq hzO53)))) bO9_0
      replace bO13_0 := ho.box (Nat.ne_of_gt (Nat.lt_of_lt_of_le lt16 (Nat.le_trans (Nat.le_trans hs19 (Nat.le_trans hs23 (Nat.le_trans hs29 (Nat.le_trans hs32 (Nat.le_trans hs38 hs50))))) (Nat.le_of_eq hzO53)))) bO13_0
      replace bO17_0 := ho.box (Nat.ne_of_gt (Nat.lt_of_lt_of_le lt20 (Nat.le_trans (Nat.le_trans hs23 (Nat.le_trans hs29 (Nat.le_trans hs32 (Nat.le_trans hs38 hs50)))) (Nat.le_of_eq hzO53)))) bO17_0
      replace bO17_1 := ho.box (Nat.ne_of_gt (Nat.lt_of_lt_of_le lt20 (Nat.le_trans (Nat.le_trans hs23 (Nat.le_trans hs29 (Nat.le_trans hs32 (Nat.le_trans hs38 hs50)))) (Nat.le_of_eq hzO53)))) bO17_1
      replace hc27 := ho.cell (Nat.ne_of_gt (Nat.lt_of_lt_of_le lt30 (Nat.le_trans (Nat.le_trans hs32 (Nat.le_trans hs38 hs50)) (Nat.le_of_eq hzO53)))) hc27
      replace hrk39 := hrk39.turn ho (.inr (Nat.le_trans hs50 (Nat.le_of_eq hzO53)))
      replace z0 := ho.box (Nat.ne_of_gt (Nat.lt_of_lt_of_le lt24 (Nat.le_trans (Nat.le_trans hs29 (Nat.le_trans hs32 (Nat.le_trans hs38 hs50))) (Nat.le_of_eq hzO53)))) z0
      replace z1 := ho.box (Nat.ne_of_gt (Nat.lt_of_lt_of_le lt24 (Nat.le_trans (Nat.le_trans hs29 (Nat.le_trans hs32 (Nat.le_trans hs38 hs50))) (Nat.le_of_eq hzO53)))) z1
      replace hr47 := ho.rows (Nat.ne_of_gt (Nat.lt_of_lt_of_le lt51 (Nat.le_of_eq hzO53))) hr47
      replace hr48 := ho.rows (Nat.ne_of_gt (Nat.lt_of_lt_of_le lt52 (Nat.le_of_eq hzO53))) hr48
      have hs58 : X54.heap.size ≤ X57.heap.size := Nat.le_of_eq ho.size.symm
      clear ho hk bO53_0 bO53_1
      have bO53_0 := hv0; clear hv0
      have bO53_1 := hv1; clear hv1
      refine ipl_nil ?_
      refine iqw_then ?_
      refine icw_seq ?_
      refine icw_plain ?_
      refine ipl_take (.int .i64 (-o.sl + ((i : Nat) : Int) : Int)) rfl (by kernel_rfl) (by kernel_rfl) (by kernel_rfl) (by kernel_rfl) ?_
      refine ipl_take (.pointer (some ⟨O1, 6, none⟩)) rfl (by kernel_rfl) (by kernel_rfl) (by kernel_rfl) (by kernel_rfl) ?_
      refine ipl_take (.int .i64 (o.sl : Int)) rfl (by kernel_rfl) (by kernel_rfl) (by kernel_rfl) (ex_load rfl (by kernel_rfl) (ld3 (bO1_6.1))) ?_
      refine ipl_take (.int .i64 (-o.sl : Int)) rfl (by kernel_rfl) (by kernel_rfl) (by kernel_rfl) (ev_int (ev_wrap (a := 0 - o.sl) (by kernel_rfl) (by omega) (by omega)) (by omega)) ?_
      refine ipl_take (.bool true) rfl (by kernel_rfl) (by kernel_rfl) (by kernel_rfl) (ev_eq (show _ = Result.ok (Next.value (Value.bool ((-o.sl + ((i : Nat) : Int) : Int) == (-o.sl : Int)))) _ from by kernel_rfl) (by omega)) ?_
      refine ipl_nil ?_
      refine iqw_then ?_
      refine icw_clean [6, 7, 9, 11, 22] (ws' := [(6, .pointer (some ⟨O9, 0, none⟩)), (7, .pointer (some ⟨O13, 0, none⟩)), (9, .pointer (some ⟨O21, 0, none⟩)), (11, .pointer (some ⟨O53, 0, none⟩)), (22, .bool true)]) (by kernel_rfl) (fun L => ?_)
      refine icw_t (by kernel_rfl) ?_
      refine icw_plain ?_
      refine ipl_take (.func (.func 45) #[] #[]) rfl (by kernel_rfl) (by kernel_rfl) (by kernel_rfl) (ex_load rfl (by kernel_rfl) (ld82 (bO9_0.1))) ?_
      refine ipl_take (.agg #[.slice (some ⟨B40, 0, none⟩) 24 k42, .slice (some ⟨g41, 0, none⟩) 24 k43]) rfl (by kernel_rfl) (by kernel_rfl) (by kernel_rfl) (ex_load rfl (by kernel_rfl) (ld40 (bO53_0.1) (bO53_1.1))) ?_
      refine ipl_step rfl (by kernel_rfl) (by kernel_rfl) (by kernel_rfl) (sn_call (f := 45) (args := #[.agg #[.slice (some ⟨B40, 0, none⟩) 24 k42, .slice (some ⟨g41, 0, none⟩) 24 k43]]) (by kernel_rfl) ((first_c _).mono ?_))
      rintro e w59 ⟨rfl, hb⟩
      replace hE := hE.trans hb
      replace bO1_0 := BoxAt.ext hb bO1_0
      replace bO1_1 := BoxAt.ext hb bO1_1
      replace bO1_2 := BoxAt.ext hb bO1_2
      replace bO1_3 := BoxAt.ext hb bO1_3
      replace bO1_4 := BoxAt.ext hb bO1_4
      replace bO1_5 := BoxAt.ext hb bO1_5
      replace bO1_6 := BoxAt.ext hb bO1_6
      replace bO5_0 := BoxAt.ext hb bO5_0
      replace bO9_0 := BoxAt.ext hb bO9_0
      replace bO13_0 := BoxAt.ext hb bO13_0
      replace bO17_0 := BoxAt.ext hb bO17_0
      replace bO17_1 := BoxAt.ext hb bO17_1
      replace hc27 := hb.cell hc27
      replace hrk39 := hrk39.ext hb
      replace z0 := BoxAt.ext hb z0
      replace z1 := BoxAt.ext hb z1
      replace hr47 := hr47.ext hb
      replace hr48 := hr48.ext hb
      replace bO53_0 := BoxAt.ext hb bO53_0
      replace bO53_1 := BoxAt.ext hb bO53_1
      have hs60 := hb.size
      clear hb
      refine ⟨_, rfl, ?_⟩
      refine ipl_put rfl (by kernel_rfl) (by kernel_rfl) (sn_set2 (O := O21) (j := 0) (v := .slice (some ⟨B40, 0, none⟩) 24 k42) (v' := .slice (some ⟨g41, 0, none⟩) 24 k43) (ex_store (p := .pointer (some ⟨O21, 0, none⟩)) (v := .agg #[.slice (some ⟨B40, 0, none⟩) 24 k42, .slice (some ⟨g41, 0, none⟩) 24 k43]) rfl (by kernel_rfl) (by kernel_rfl) (st40 z0.1 z0.2 z1.1 z1.2)) z0 z1 ?_)
      intro X61 ho hv0 hv1 hk
      replace hE := ho.ext hE (Nat.le_trans (Nat.le_trans hs3 (Nat.le_trans hs7 (Nat.le_trans hs11 (Nat.le_trans hs15 hs19)))) (Nat.le_of_eq hzO21))
      replace bO1_0 := ho.box (Nat.ne_of_gt (Nat.lt_of_lt_of_le lt4 (Nat.le_trans (Nat.le_trans hs7 (Nat.le_trans hs11 (Nat.le_trans hs15 hs19))) (Nat.le_of_eq hzO21)))) bO1_0
      replace bO1_1 := ho.box (Nat.ne_of_gt (Nat.lt_of_lt_of_le lt4 (Nat.le_trans (Nat.le_trans hs7 (Nat.le_trans hs11 (Nat.le_trans hs15 hs19))) (Nat.le_of_eq hzO21)))) bO1_1
      replace bO1_2 := ho.box (Nat.ne_of_gt (Nat.lt_of_lt_of_le lt4 (Nat.le_trans (Nat.le_trans hs7 (Nat.le_trans hs11 (Nat.le_trans hs15 hs19))) (Nat.le_of_eq hzO21)))) bO1_2
      replace bO1_3 := ho.box (Nat.ne_of_gt (Nat.lt_of_lt_of_le lt4 (Nat.le_trans (Nat.le_trans hs7 (Nat.le_trans hs11 (Nat.le_trans hs15 hs19))) (Nat.le_of_eq hzO21)))) bO1_3
      replace bO1_4 := ho.box (Nat.ne_of_gt (Nat.lt_of_lt_of_le lt4 (Nat.le_trans (Nat.le_trans hs7 (Nat.le_trans hs11 (Nat.le_trans hs15 hs19))) (Nat.le_of_eq hzO21)))) bO1_4
      replace bO1_5 := ho.box (Nat.ne_of_gt (Nat.lt_of_lt_of_le lt4 (Nat.le_trans (Nat.le_trans hs7 (Nat.le_trans hs11 (Nat.le_trans hs15 hs19))) (Nat.le_of_eq hzO21)))) bO1_5
      replace bO1_6 := ho.box (Nat.ne_of_gt (Nat.lt_of_lt_of_le lt4 (Nat.le_trans (Nat.le_trans hs7 (Nat.le_trans hs11 (Nat.le_trans hs15 hs19))) (Nat.le_of_eq hzO21)))) bO1_6
      replace bO5_0 := ho.box (Nat.ne_of_gt (Nat.lt_of_lt_of_le lt8 (Nat.le_trans (Nat.le_trans hs11 (Nat.le_trans hs15 hs19)) (Nat.le_of_eq hzO21)))) bO5_0
      replace bO9_0 := ho.box (Nat.ne_of_gt (Nat.lt_of_lt_of_le lt12 (Nat.le_trans (Nat.le_trans hs15 hs19) (Nat.le_of_eq hzO21)))) bO9_0
      replace bO13_0 := ho.box (Nat.ne_of_gt (Nat.lt_of_lt_of_le lt16 (Nat.le_trans hs19 (Nat.le_of_eq hzO21)))) bO13_0
      replace bO17_0 := ho.box (Nat.ne_of_gt (Nat.lt_of_lt_of_le lt20 (Nat.le_of_eq hzO21))) bO17_0
      replace bO17_1 := ho.box (Nat.ne_of_gt (Nat.lt_of_lt_of_le lt20 (Nat.le_of_eq hzO21))) bO17_1
      replace hc27 := ho.cell (Nat.ne_of_lt (Nat.lt_of_lt_of_le lt24 hn26)) hc27
      replace hrk39 := hrk39.turn ho (.inl (.inl rfl))
      replace hr47 := ho.rows (Nat.ne_of_lt (Nat.lt_of_lt_of_le lt24 (Nat.le_trans (Nat.le_trans hs29 (Nat.le_trans hs32 hs38)) hn44))) hr47
      replace hr48 := ho.rows (Nat.ne_of_lt (Nat.lt_of_lt_of_le lt24 (Nat.le_trans (Nat.le_trans hs29 (Nat.le_trans hs32 hs38)) hn45))) hr48
      replace bO53_0 := ho.box (Nat.ne_of_lt (Nat.lt_of_lt_of_le lt24 (Nat.le_trans (Nat.le_trans hs29 (Nat.le_trans hs32 (Nat.le_trans hs38 hs50))) (Nat.le_of_eq hzO53)))) bO53_0
      replace bO53_1 := ho.box (Nat.ne_of_lt (Nat.lt_of_lt_of_le lt24 (Nat.le_trans (Nat.le_trans hs29 (Nat.le_trans hs32 (Nat.le_trans hs38 hs50))) (Nat.le_of_eq hzO53)))) bO53_1
      have hs62 : w59.heap.size ≤ X61.heap.size := Nat.le_of_eq ho.size.symm
      clear ho hk z0 z1
      have z0 := hv0; clear hv0
      have z1 := hv1; clear hv1
      refine ipl_nil ?_
      refine iqw_block ?_
      exact iqw_next hrk39 ⟨(Nat.le_trans hs32 (Nat.le_trans hs38 (Nat.le_trans hs50 (Nat.le_trans hs55 (Nat.le_trans hs58 (Nat.le_trans hs60 hs62)))))), hE, bO1_0, bO1_1, bO1_2, bO1_3, bO1_4, bO1_5, bO1_6, bO5_0, bO9_0, bO13_0, bO17_0, bO17_1, hc27, (fold_first hi0 z0 z1 (Nat.le_trans (Nat.le_trans hs32 hs38) hn44) (Nat.le_trans (Nat.le_trans hs32 hs38) hn45) hne46h.out hr47 hr48)⟩
    ·
      have na9 := Lib.hid na
      have lt63 := ra1.lt
      have lt64 := ra2.lt
      refine icw_plain ?_
      refine ipl_take (.func (.func 41) #[] #[.pointer (some ⟨Bo, 0, none⟩), .pointer (some ⟨Bs, 0, none⟩), .pointer (some ⟨Bl, 0, none⟩)]) rfl (by kernel_rfl) (by kernel_rfl) (by kernel_rfl) (ex_load rfl (by kernel_rfl) (ld79 (bO5_0.1))) ?_
      refine ipl_take (.int .i64 (-o.sl + ((i : Nat) : Int) : Int)) rfl (by kernel_rfl) (by kernel_rfl) (by kernel_rfl) (by kernel_rfl) ?_
      refine ipl_step rfl (by kernel_rfl) (by kernel_rfl) (by kernel_rfl) (sn_call (f := 41) (args := #[.int .i64 (-o.sl + ((i : Nat) : Int) : Int), .pointer (some ⟨Bo, 0, none⟩), .pointer (some ⟨Bs, 0, none⟩), .pointer (some ⟨Bl, 0, none⟩)]) (by kernel_rfl) ((value_c (-o.sl + ((i : Nat) : Int)) _ hS (e0.trans hE) hv hd9).mono ?_))
      rintro e w74 ⟨B65, g66, k67, k68, rfl, hn69, hn70, hne71, hr72, hr73, hb⟩
      replace hE := hE.trans hb
      replace bO1_0 := BoxAt.ext hb bO1_0
      replace bO1_1 := BoxAt.ext hb bO1_1
      replace bO1_2 := BoxAt.ext hb bO1_2
      replace bO1_3 := BoxAt.ext hb bO1_3
      replace bO1_4 := BoxAt.ext hb bO1_4
      replace bO1_5 := BoxAt.ext hb bO1_5
      replace bO1_6 := BoxAt.ext hb bO1_6
      replace bO5_0 := BoxAt.ext hb bO5_0
      replace bO9_0 := BoxAt.ext hb bO9_0
      replace bO13_0 := BoxAt.ext hb bO13_0
      replace bO17_0 := BoxAt.ext hb bO17_0
      replace bO17_1 := BoxAt.ext hb bO17_1
      replace hc27 := hb.cell hc27
      replace hrk39 := hrk39.ext hb
      replace z0 := BoxAt.ext hb z0
      replace z1 := BoxAt.ext hb z1
      replace ra1 := ra1.ext hb
      replace ra2 := ra2.ext hb
      have hs75 := hb.size
      clear hb
      have lt76 := hr72.lt
      have lt77 := hr73.lt
      have hne71h := Lib.hid hne71
      refine ⟨_, rfl, ?_⟩
      refine ipl_step rfl (by kernel_rfl) (by kernel_rfl) (by kernel_rfl) (sn_new (us := #[.slice none 0 0, .slice none 0 0]) (t := 40) (by kernel_rfl) ?_)
      intro O78 X79 hO hOs hb hbx
      have hzO78 := hO; have hyO78 := hOs; clear hO hOs
      have bO78_0 : BoxAt X79 O78 0 (.slice none 0 0) := hbx 0 _ rfl
      have bO78_1 : BoxAt X79 O78 1 (.slice none 0 0) := hbx 1 _ rfl
      clear hbx
      replace hE := hE.trans hb
      replace bO1_0 := BoxAt.ext hb bO1_0
      replace bO1_1 := BoxAt.ext hb bO1_1
      replace bO1_2 := BoxAt.ext hb bO1_2
      replace bO1_3 := BoxAt.ext hb bO1_3
      replace bO1_4 := BoxAt.ext hb bO1_4
      replace bO1_5 := BoxAt.ext hb bO1_5
      replace bO1_6 := BoxAt.ext hb bO1_6
      replace bO5_0 := BoxAt.ext hb bO5_0
      replace bO9_0 := BoxAt.ext hb bO9_0
      replace bO13_0 := BoxAt.ext hb bO13_0
      replace bO17_0 := BoxAt.ext hb bO17_0
      replace bO17_1 := BoxAt.ext hb bO17_1
      replace hc27 := hb.cell hc27
      replace hrk39 := hrk39.ext hb
      replace z0 := BoxAt.ext hb z0
      replace z1 := BoxAt.ext hb z1
      replace ra1 := ra1.ext hb
      replace ra2 := ra2.ext hb
      replace hr72 := hr72.ext hb
      replace hr73 := hr73.ext hb
      have hs80 := hb.size
      clear hb
      have lt81 := bO78_0.lt
      refine ipl_put rfl (by kernel_rfl) (by kernel_rfl) (sn_set2 (O := O78) (j := 0) (v := .slice (some ⟨B65, 0, none⟩) 24 k67) (v' := .slice (some ⟨g66, 0, none⟩) 24 k68) (ex_store (p := .pointer (some ⟨O78, 0, none⟩)) (v := .agg #[.slice (some ⟨B65, 0, none⟩) 24 k67, .slice (some ⟨g66, 0, none⟩) 24 k68]) rfl (by kernel_rfl) (by kernel_rfl) (st40 bO78_0.1 bO78_0.2 bO78_1.1 bO78_1.2)) bO78_0 bO78_1 ?_)
      intro X82 ho hv0 hv1 hk
      replace hE := ho.ext hE (Nat.le_trans (Nat.le_trans hs3 (Nat.le_trans hs7 (Nat.le_trans hs11 (Nat.le_trans hs15 (Nat.le_trans hs19 (Nat.le_trans hs23 (Nat.le_trans hs29 (Nat.le_trans hs32 (Nat.le_trans hs38 hs75))))))))) (Nat.le_of_eq hzO78))
      replace bO1_0 := ho.box (Nat.ne_of_gt (Nat.lt_of_lt_of_le lt4 (Nat.le_trans (Nat.le_trans hs7 (Nat.le_trans hs11 (Nat.le_trans hs15 (Nat.le_trans hs19 (Nat.le_trans hs23 (Nat.le_trans hs29 (Nat.le_trans hs32 (Nat.le_trans hs38 hs75)))))))) (Nat.le_of_eq hzO78)))) bO1_0
      replace bO1_1 := ho.box (Nat.ne_of_gt (Nat.lt_of_lt_of_le lt4 (Nat.le_trans (Nat.le_trans hs7 (Nat.le_trans hs11 (Nat.le_trans hs15 (Nat.le_trans hs19 (Nat.le_trans hs23 (Nat.le_trans hs29 (Nat.le_trans hs32 (Nat.le_trans hs38 hs75)))))))) (Nat.le_of_eq hzO78)))) bO1_1
      replace bO1_2 := ho.box (Nat.ne_of_gt (Nat.lt_of_lt_of_le lt4 (Nat.le_trans (Nat.le_trans hs7 (Nat.le_trans hs11 (Nat.le_trans hs15 (Nat.le_trans hs19 (Nat.le_trans hs23 (Nat.le_trans hs29 (Nat.le_trans hs32 (Nat.le_trans hs38 hs75)))))))) (Nat.le_of_eq hzO78)))) bO1_2
      replace bO1_3 := ho.box (Nat.ne_of_gt (Nat.lt_of_lt_of_le lt4 (Nat.le_trans (Nat.le_trans hs7 (Nat.le_trans hs11 (Nat.le_trans hs15 (Nat.le_trans hs19 (Nat.le_trans hs23 (Nat.le_trans hs29 (Nat.le_trans hs32 (Nat.le_trans hs38 hs75)))))))) (Nat.le_of_eq hzO78)))) bO1_3
      replace bO1_4 := ho.box (Nat.ne_of_gt (Nat.lt_of_lt_of_le lt4 (Nat.le_trans (Nat.le_trans hs7 (Nat.le_trans hs11 (Nat.le_trans hs15 (Nat.le_trans hs19 (Nat.le_trans hs23 (Nat.le_trans hs29 (Nat.le_trans hs32 (Nat.le_trans hs38 hs75)))))))) (Nat.le_of_eq hzO78)))) bO1_4
      replace bO1_5 := ho.box (Nat.ne_of_gt (Nat.lt_of_lt_of_le lt4 (Nat.le_trans (Nat.le_trans hs7 (Nat.le_trans hs11 (Nat.le_trans hs15 (Nat.le_trans hs19 (Nat.le_trans hs23 (Nat.le_trans hs29 (Nat.le_trans hs32 (Nat.le_trans hs38 hs75)))))))) (Nat.le_of_eq hzO78)))) bO1_5
      replace bO1_6 := ho.box (Nat.ne_of_gt (Nat.lt_of_lt_of_le lt4 (Nat.le_trans (Nat.le_trans hs7 (Nat.le_trans hs11 (Nat.le_trans hs15 (Nat.le_trans hs19 (Nat.le_trans hs23 (Nat.le_trans hs29 (Nat.le_trans hs32 (Nat.le_trans hs38 hs75)))))))) (Nat.le_of_eq hzO78)))) bO1_6
      replace bO5_0 := ho.box (Nat.ne_of_gt (Nat.lt_of_lt_of_le lt8 (Nat.le_trans (Nat.le_trans hs11 (Nat.le_trans hs15 (Nat.le_trans hs19 (Nat.le_trans hs23 (Nat.le_trans hs29 (Nat.le_trans hs32 (Nat.le_trans hs38 hs75))))))) (Nat.le_of_eq hzO78)))) bO5_0
      replace bO9_0 := ho.box (Nat.ne_of_gt (Nat.lt_of_lt_of_le lt12 (Nat.le_trans (Nat.le_trans hs15 (Nat.le_trans hs19 (Nat.le_trans hs23 (Nat.le_trans hs29 (Nat.le_trans hs32 (Nat.le_trans hs38 hs75)))))) (Nat.le_of_eq hzO78)))) bO9_0
      replace bO13_0 := ho.box (Nat.ne_of_gt (Nat.lt_of_lt_of_le lt16 (Nat.le_trans (Nat.le_trans hs19 (Nat.le_trans hs23 (Nat.le_trans hs29 (Nat.le_trans hs32 (Nat.le_trans hs38 hs75))))) (Nat.le_of_eq hzO78)))) bO13_0
      replace bO17_0 := ho.box (Nat.ne_of_gt (Nat.lt_of_lt_of_le lt20 (Nat.le_trans (Nat.le_trans hs23 (Nat.le_trans hs29 (Nat.le_trans hs32 (Nat.le_trans hs38 hs75)))) (Nat.le_of_eq hzO78)))) bO17_0
      replace bO17_1 := ho.box (Nat.ne_of_gt (Nat.lt_of_lt_of_le lt20 (Nat.le_trans (Nat.le_trans hs23 (Nat.le_trans hs29 (Nat.le_trans hs32 (Nat.le_trans hs38 hs75)))) (Nat.le_of_eq hzO78)))) bO17_1
      replace hc27 := ho.cell (Nat.ne_of_gt (Nat.lt_of_lt_of_le lt30 (Nat.le_trans (Nat.le_trans hs32 (Nat.le_trans hs38 hs75)) (Nat.le_of_eq hzO78)))) hc27
      replace hrk39 := hrk39.turn ho (.inr (Nat.le_trans hs75 (Nat.le_of_eq hzO78)))
      replace z0 := ho.box (Nat.ne_of_gt (Nat.lt_of_lt_of_le lt24 (Nat.le_trans (Nat.le_trans hs29 (Nat.le_trans hs32 (Nat.le_trans hs38 hs75))) (Nat.le_of_eq hzO78)))) z0
      replace z1 := ho.box (Nat.ne_of_gt (Nat.lt_of_lt_of_le lt24 (Nat.le_trans (Nat.le_trans hs29 (Nat.le_trans hs32 (Nat.le_trans hs38 hs75))) (Nat.le_of_eq hzO78)))) z1
      replace ra1 := ho.rows (Nat.ne_of_gt (Nat.lt_of_lt_of_le lt63 (Nat.le_trans hs75 (Nat.le_of_eq hzO78)))) ra1
      replace ra2 := ho.rows (Nat.ne_of_gt (Nat.lt_of_lt_of_le lt64 (Nat.le_trans hs75 (Nat.le_of_eq hzO78)))) ra2
      replace hr72 := ho.rows (Nat.ne_of_gt (Nat.lt_of_lt_of_le lt76 (Nat.le_of_eq hzO78))) hr72
      replace hr73 := ho.rows (Nat.ne_of_gt (Nat.lt_of_lt_of_le lt77 (Nat.le_of_eq hzO78))) hr73
      have hs83 : X79.heap.size ≤ X82.heap.size := Nat.le_of_eq ho.size.symm
      clear ho hk bO78_0 bO78_1
      have bO78_0 := hv0; clear hv0
      have bO78_1 := hv1; clear hv1
      refine ipl_nil ?_
      refine iqw_then ?_
      refine icw_seq ?_
      refine icw_plain ?_
      refine ipl_take (.int .i64 (-o.sl + ((i : Nat) : Int) : Int)) rfl (by kernel_rfl) (by kernel_rfl) (by kernel_rfl) (by kernel_rfl) ?_
      refine ipl_take (.pointer (some ⟨O1, 6, none⟩)) rfl (by kernel_rfl) (by kernel_rfl) (by kernel_rfl) (by kernel_rfl) ?_
      refine ipl_take (.int .i64 (o.sl : Int)) rfl (by kernel_rfl) (by kernel_rfl) (by kernel_rfl) (ex_load rfl (by kernel_rfl) (ld3 (bO1_6.1))) ?_
      refine ipl_take (.int .i64 (-o.sl : Int)) rfl (by kernel_rfl) (by kernel_rfl) (by kernel_rfl) (ev_int (ev_wrap (a := 0 - o.sl) (by kernel_rfl) (by omega) (by omega)) (by omega)) ?_
      refine ipl_take (.bool false) rfl (by kernel_rfl) (by kernel_rfl) (by kernel_rfl) (ev_neq (show _ = Result.ok (Next.value (Value.bool ((-o.sl + ((i : Nat) : Int) : Int) == (-o.sl : Int)))) _ from by kernel_rfl) (by omega)) ?_
      refine ipl_nil ?_
      refine iqw_then ?_
      refine icw_clean [6, 7, 9, 11, 22] (ws' := [(6, .pointer (some ⟨O9, 0, none⟩)), (7, .pointer (some ⟨O13, 0, none⟩)), (9, .pointer (some ⟨O21, 0, none⟩)), (11, .pointer (some ⟨O78, 0, none⟩)), (22, .bool false)]) (by kernel_rfl) (fun L => ?_)
      refine icw_f (by kernel_rfl) ?_
      refine icw_plain ?_
      refine ipl_take (.func (.func 43) #[] #[]) rfl (by kernel_rfl) (by kernel_rfl) (by kernel_rfl) (ex_load rfl (by kernel_rfl) (ld80 (bO13_0.1))) ?_
      refine ipl_take (.agg #[.slice (some ⟨A1, 0, none⟩) 24 c1, .slice (some ⟨A2, 0, none⟩) 24 c2]) rfl (by kernel_rfl) (by kernel_rfl) (by kernel_rfl) (ex_load rfl (by kernel_rfl) (ld40 (z0.1) (z1.1))) ?_
      refine ipl_take (.agg #[.slice (some ⟨B65, 0, none⟩) 24 k67, .slice (some ⟨g66, 0, none⟩) 24 k68]) rfl (by kernel_rfl) (by kernel_rfl) (by kernel_rfl) (ex_load rfl (by kernel_rfl) (ld40 (bO78_0.1) (bO78_1.1))) ?_
      refine ipl_step rfl (by kernel_rfl) (by kernel_rfl) (by kernel_rfl) (sn_call (f := 43) (args := #[.agg #[.slice (some ⟨A1, 0, none⟩) 24 c1, .slice (some ⟨A2, 0, none⟩) 24 c2], .agg #[.slice (some ⟨B65, 0, none⟩) 24 k67, .slice (some ⟨g66, 0, none⟩) 24 k68]]) (by kernel_rfl) ((both_c _ ra1 (Swath.foldM_valid (Swath.areaJ_valid hok s lk) i) ra2 (Swath.foldU_valid (Swath.areaJ_valid hok s lk) i) (RowsAt.va (L := Swath.areaJ o s lk i) hr72 (Swath.areaJ_valid hok s lk i)) (RowsAt.va (L := Swath.areaJ o s lk i) hr73 (Swath.areaJ_valid hok s lk i)) na9.out (Nat.ne_of_lt (Nat.lt_of_lt_of_le lt63 hn69)) (Nat.ne_of_lt (Nat.lt_of_lt_of_le lt63 hn70)) (Nat.ne_of_lt (Nat.lt_of_lt_of_le lt64 hn69)) (Nat.ne_of_lt (Nat.lt_of_lt_of_le lt64 hn70))).mono ?_))
      rintro e w87 ⟨rfl, hr84, hr85, hw86⟩
      replace hE := hw86.ext hE (fun k hk => hk.elim (fun e => e ▸ (Nat.le_trans (Nat.le_trans hs3 (Nat.le_trans hs7 (Nat.le_trans hs11 (Nat.le_trans hs15 (Nat.le_trans hs19 (Nat.le_trans hs23 hs29)))))) la1)) (fun e => e ▸ (Nat.le_trans (Nat.le_trans hs3 (Nat.le_trans hs7 (Nat.le_trans hs11 (Nat.le_trans hs15 (Nat.le_trans hs19 (Nat.le_trans hs23 hs29)))))) la2)))
      replace bO1_0 := hw86.box (fun hx => hx.elim (Nat.ne_of_lt (Nat.lt_of_lt_of_le lt4 (Nat.le_trans (Nat.le_trans hs7 (Nat.le_trans hs11 (Nat.le_trans hs15 (Nat.le_trans hs19 (Nat.le_trans hs23 hs29))))) la1))) (Nat.ne_of_lt (Nat.lt_of_lt_of_le lt4 (Nat.le_trans (Nat.le_trans hs7 (Nat.le_trans hs11 (Nat.le_trans hs15 (Nat.le_trans hs19 (Nat.le_trans hs23 hs29))))) la2)))) bO1_0
      replace bO1_1 := hw86.box (fun hx => hx.elim (Nat.ne_of_lt (Nat.lt_of_lt_of_le lt4 (Nat.le_trans (Nat.le_trans hs7 (Nat.le_trans hs11 (Nat.le_trans hs15 (Nat.le_trans hs19 (Nat.le_trans hs23 hs29))))) la1))) (Nat.ne_of_lt (Nat.lt_of_lt_of_le lt4 (Nat.le_trans (Nat.le_trans hs7 (Nat.le_trans hs11 (Nat.le_trans hs15 (Nat.le_trans hs19 (Nat.le_trans hs23 hs29))))) la2)))) bO1_1
      replace bO1_2 := hw86.box (fun hx => hx.elim (Nat.ne_of_lt (Nat.lt_of_lt_of_le lt4 (Nat.le_trans (Nat.le_trans hs7 (Nat.le_trans hs11 (Nat.le_trans hs15 (Nat.le_trans hs19 (Nat.le_trans hs23 hs29))))) la1))) (Nat.ne_of_lt (Nat.lt_of_lt_of_le lt4 (Nat.le_trans (Nat.le_trans hs7 (Nat.le_trans hs11 (Nat.le_trans hs15 (Nat.le_trans hs19 (Nat.le_trans hs23 hs29))))) la2)))) bO1_2
      replace bO1_3 := hw86.box (fun hx => hx.elim (Nat.ne_of_lt (Nat.lt_of_lt_of_le lt4 (Nat.le_trans (Nat.le_trans hs7 (Nat.le_trans hs11 (Nat.le_trans hs15 (Nat.le_trans hs19 (Nat.le_trans hs23 hs29))))) la1))) (Nat.ne_of_lt (Nat.lt_of_lt_of_le lt4 (Nat.le_trans (Nat.le_trans hs7 (Nat.le_trans hs11 (Nat.le_trans hs15 (Nat.le_trans hs19 (Nat.le_trans hs23 hs29))))) la2)))) bO1_3
      replace bO1_4 := hw86.box (fun hx => hx.elim (Nat.ne_of_lt (Nat.lt_of_lt_of_le lt4 (Nat.le_trans (Nat.le_trans hs7 (Nat.le_trans hs11 (Nat.le_trans hs15 (Nat.le_trans hs19 (Nat.le_trans hs23 hs29))))) la1))) (Nat.ne_of_lt (Nat.lt_of_lt_of_le lt4 (Nat.le_trans (Nat.le_trans hs7 (Nat.le_trans hs11 (Nat.le_trans hs15 (Nat.le_trans hs19 (Nat.le_trans hs23 hs29))))) la2)))) bO1_4
      replace bO1_5 := hw86.box (fun hx => hx.elim (Nat.ne_of_lt (Nat.lt_of_lt_of_le lt4 (Nat.le_trans (Nat.le_trans hs7 (Nat.le_trans hs11 (Nat.le_trans hs15 (Nat.le_trans hs19 (Nat.le_trans hs23 hs29))))) la1))) (Nat.ne_of_lt (Nat.lt_of_lt_of_le lt4 (Nat.le_trans (Nat.le_trans hs7 (Nat.le_trans hs11 (Nat.le_trans hs15 (Nat.le_trans hs19 (Nat.le_trans hs23 hs29))))) la2)))) bO1_5
      replace bO1_6 := hw86.box (fun hx => hx.elim (Nat.ne_of_lt (Nat.lt_of_lt_of_le lt4 (Nat.le_trans (Nat.le_trans hs7 (Nat.le_trans hs11 (Nat.le_trans hs15 (Nat.le_trans hs19 (Nat.le_trans hs23 hs29))))) la1))) (Nat.ne_of_lt (Nat.lt_of_lt_of_le lt4 (Nat.le_trans (Nat.le_trans hs7 (Nat.le_trans hs11 (Nat.le_trans hs15 (Nat.le_trans hs19 (Nat.le_trans hs23 hs29))))) la2)))) bO1_6
      replace bO5_0 := hw86.box (fun hx => hx.elim (Nat.ne_of_lt (Nat.lt_of_lt_of_le lt8 (Nat.le_trans (Nat.le_trans hs11 (Nat.le_trans hs15 (Nat.le_trans hs19 (Nat.le_trans hs23 hs29)))) la1))) (Nat.ne_of_lt (Nat.lt_of_lt_of_le lt8 (Nat.le_trans (Nat.le_trans hs11 (Nat.le_trans hs15 (Nat.le_trans hs19 (Nat.le_trans hs23 hs29)))) la2)))) bO5_0
      replace bO9_0 := hw86.box (fun hx => hx.elim (Nat.ne_of_lt (Nat.lt_of_lt_of_le lt12 (Nat.le_trans (Nat.le_trans hs15 (Nat.le_trans hs19 (Nat.le_trans hs23 hs29))) la1))) (Nat.ne_of_lt (Nat.lt_of_lt_of_le lt12 (Nat.le_trans (Nat.le_trans hs15 (Nat.le_trans hs19 (Nat.le_trans hs23 hs29))) la2)))) bO9_0
      replace bO13_0 := hw86.box (fun hx => hx.elim (Nat.ne_of_lt (Nat.lt_of_lt_of_le lt16 (Nat.le_trans (Nat.le_trans hs19 (Nat.le_trans hs23 hs29)) la1))) (Nat.ne_of_lt (Nat.lt_of_lt_of_le lt16 (Nat.le_trans (Nat.le_trans hs19 (Nat.le_trans hs23 hs29)) la2)))) bO13_0
      replace bO17_0 := hw86.box (fun hx => hx.elim (Nat.ne_of_lt (Nat.lt_of_lt_of_le lt20 (Nat.le_trans (Nat.le_trans hs23 hs29) la1))) (Nat.ne_of_lt (Nat.lt_of_lt_of_le lt20 (Nat.le_trans (Nat.le_trans hs23 hs29) la2)))) bO17_0
      replace bO17_1 := hw86.box (fun hx => hx.elim (Nat.ne_of_lt (Nat.lt_of_lt_of_le lt20 (Nat.le_trans (Nat.le_trans hs23 hs29) la1))) (Nat.ne_of_lt (Nat.lt_of_lt_of_le lt20 (Nat.le_trans (Nat.le_trans hs23 hs29) la2)))) bO17_1
      replace hc27 := hw86.cell (fun hx => hx.elim (Nat.ne_of_lt (Nat.lt_of_lt_of_le lt30 la1)) (Nat.ne_of_lt (Nat.lt_of_lt_of_le lt30 la2))) hc27
      replace hrk39 := hrk39.wrote hw86 (fun k hk => hk.elim (fun e => e ▸ (.inl (.inr la1))) (fun e => e ▸ (.inl (.inr la2))))
      replace z0 := hw86.box (fun hx => hx.elim (Nat.ne_of_lt (Nat.lt_of_lt_of_le lt24 (Nat.le_trans hs29 la1))) (Nat.ne_of_lt (Nat.lt_of_lt_of_le lt24 (Nat.le_trans hs29 la2)))) z0
      replace z1 := hw86.box (fun hx => hx.elim (Nat.ne_of_lt (Nat.lt_of_lt_of_le lt24 (Nat.le_trans hs29 la1))) (Nat.ne_of_lt (Nat.lt_of_lt_of_le lt24 (Nat.le_trans hs29 la2)))) z1
      replace hr72 := hw86.rows (fun hx => hx.elim (Nat.ne_of_gt (Nat.lt_of_lt_of_le lt63 hn69)) (Nat.ne_of_gt (Nat.lt_of_lt_of_le lt64 hn69))) hr72
      replace hr73 := hw86.rows (fun hx => hx.elim (Nat.ne_of_gt (Nat.lt_of_lt_of_le lt63 hn70)) (Nat.ne_of_gt (Nat.lt_of_lt_of_le lt64 hn70))) hr73
      replace bO78_0 := hw86.box (fun hx => hx.elim (Nat.ne_of_gt (Nat.lt_of_lt_of_le lt63 (Nat.le_trans hs75 (Nat.le_of_eq hzO78)))) (Nat.ne_of_gt (Nat.lt_of_lt_of_le lt64 (Nat.le_trans hs75 (Nat.le_of_eq hzO78))))) bO78_0
      replace bO78_1 := hw86.box (fun hx => hx.elim (Nat.ne_of_gt (Nat.lt_of_lt_of_le lt63 (Nat.le_trans hs75 (Nat.le_of_eq hzO78)))) (Nat.ne_of_gt (Nat.lt_of_lt_of_le lt64 (Nat.le_trans hs75 (Nat.le_of_eq hzO78))))) bO78_1
      have hs88 := hw86.size
      have lt89 := hr84.lt
      have lt90 := hr85.lt
      refine ⟨_, rfl, ?_⟩
      refine ipl_put rfl (by kernel_rfl) (by kernel_rfl) (sn_set2 (O := O21) (j := 0) (v := .slice (some ⟨A1, 0, none⟩) 24 c1) (v' := .slice (some ⟨A2, 0, none⟩) 24 c2) (ex_store (p := .pointer (some ⟨O21, 0, none⟩)) (v := .agg #[.slice (some ⟨A1, 0, none⟩) 24 c1, .slice (some ⟨A2, 0, none⟩) 24 c2]) rfl (by kernel_rfl) (by kernel_rfl) (st40 z0.1 z0.2 z1.1 z1.2)) z0 z1 ?_)
      intro X91 ho hv0 hv1 hk
      replace hE := ho.ext hE (Nat.le_trans (Nat.le_trans hs3 (Nat.le_trans hs7 (Nat.le_trans hs11 (Nat.le_trans hs15 hs19)))) (Nat.le_of_eq hzO21))
      replace bO1_0 := ho.box (Nat.ne_of_gt (Nat.lt_of_lt_of_le lt4 (Nat.le_trans (Nat.le_trans hs7 (Nat.le_trans hs11 (Nat.le_trans hs15 hs19))) (Nat.le_of_eq hzO21)))) bO1_0
      replace bO1_1 := ho.box (Nat.ne_of_gt (Nat.lt_of_lt_of_le lt4 (Nat.le_trans (Nat.le_trans hs7 (Nat.le_trans hs11 (Nat.le_trans hs15 hs19))) (Nat.le_of_eq hzO21)))) bO1_1
      replace bO1_2 := ho.box (Nat.ne_of_gt (Nat.lt_of_lt_of_le lt4 (Nat.le_trans (Nat.le_trans hs7 (Nat.le_trans hs11 (Nat.le_trans hs15 hs19))) (Nat.le_of_eq hzO21)))) bO1_2
      replace bO1_3 := ho.box (Nat.ne_of_gt (Nat.lt_of_lt_of_le lt4 (Nat.le_trans (Nat.le_trans hs7 (Nat.le_trans hs11 (Nat.le_trans hs15 hs19))) (Nat.le_of_eq hzO21)))) bO1_3
      replace bO1_4 := ho.box (Nat.ne_of_gt (Nat.lt_of_lt_of_le lt4 (Nat.le_trans (Nat.le_trans hs7 (Nat.le_trans hs11 (Nat.le_trans hs15 hs19))) (Nat.le_of_eq hzO21)))) bO1_4
      replace bO1_5 := ho.box (Nat.ne_of_gt (Nat.lt_of_lt_of_le lt4 (Nat.le_trans (Nat.le_trans hs7 (Nat.le_trans hs11 (Nat.le_trans hs15 hs19))) (Nat.le_of_eq hzO21)))) bO1_5
      replace bO1_6 := ho.box (Nat.ne_of_gt (Nat.lt_of_lt_of_le lt4 (Nat.le_trans (Nat.le_trans hs7 (Nat.le_trans hs11 (Nat.le_trans hs15 hs19))) (Nat.le_of_eq hzO21)))) bO1_6
      replace bO5_0 := ho.box (Nat.ne_of_gt (Nat.lt_of_lt_of_le lt8 (Nat.le_trans (Nat.le_trans hs11 (Nat.le_trans hs15 hs19)) (Nat.le_of_eq hzO21)))) bO5_0
      replace bO9_0 := ho.box (Nat.ne_of_gt (Nat.lt_of_lt_of_le lt12 (Nat.le_trans (Nat.le_trans hs15 hs19) (Nat.le_of_eq hzO21)))) bO9_0
      replace bO13_0 := ho.box (Nat.ne_of_gt (Nat.lt_of_lt_of_le lt16 (Nat.le_trans hs19 (Nat.le_of_eq hzO21)))) bO13_0
      replace bO17_0 := ho.box (Nat.ne_of_gt (Nat.lt_of_lt_of_le lt20 (Nat.le_of_eq hzO21))) bO17_0
      replace bO17_1 := ho.box (Nat.ne_of_gt (Nat.lt_of_lt_of_le lt20 (Nat.le_of_eq hzO21))) bO17_1
      replace hc27 := ho.cell (Nat.ne_of_lt (Nat.lt_of_lt_of_le lt24 hn26)) hc27
      replace hrk39 := hrk39.turn ho (.inl (.inl rfl))
      replace hr72 := ho.rows (Nat.ne_of_lt (Nat.lt_of_lt_of_le lt24 (Nat.le_trans (Nat.le_trans hs29 (Nat.le_trans hs32 hs38)) hn69))) hr72
      replace hr73 := ho.rows (Nat.ne_of_lt (Nat.lt_of_lt_of_le lt24 (Nat.le_trans (Nat.le_trans hs29 (Nat.le_trans hs32 hs38)) hn70))) hr73
      replace bO78_0 := ho.box (Nat.ne_of_lt (Nat.lt_of_lt_of_le lt24 (Nat.le_trans (Nat.le_trans hs29 (Nat.le_trans hs32 (Nat.le_trans hs38 hs75))) (Nat.le_of_eq hzO78)))) bO78_0
      replace bO78_1 := ho.box (Nat.ne_of_lt (Nat.lt_of_lt_of_le lt24 (Nat.le_trans (Nat.le_trans hs29 (Nat.le_trans hs32 (Nat.le_trans hs38 hs75))) (Nat.le_of_eq hzO78)))) bO78_1
      replace hr84 := ho.rows (Nat.ne_of_lt (Nat.lt_of_lt_of_le lt24 (Nat.le_trans hs29 la1))) hr84
      replace hr85 := ho.rows (Nat.ne_of_lt (Nat.lt_of_lt_of_le lt24 (Nat.le_trans hs29 la2))) hr85
      have hs92 : w87.heap.size ≤ X91.heap.size := Nat.le_of_eq ho.size.symm
      clear ho hk z0 z1
      have z0 := hv0; clear hv0
      have z1 := hv1; clear hv1
      refine ipl_nil ?_
      refine iqw_block ?_
      exact iqw_next hrk39 ⟨(Nat.le_trans hs32 (Nat.le_trans hs38 (Nat.le_trans hs75 (Nat.le_trans hs80 (Nat.le_trans hs83 (Nat.le_trans hs88 hs92)))))), hE, bO1_0, bO1_1, bO1_2, bO1_3, bO1_4, bO1_5, bO1_6, bO5_0, bO9_0, bO13_0, bO17_0, bO17_1, hc27, (fold_next hi0 z0 z1 la1 la2 na9.out hr84 hr85)⟩
  ·
    clear bO1_0 bO1_1 bO1_2 bO1_3 bO1_4 bO1_5 bO1_6 bO5_0 bO9_0 bO13_0 bO17_0 bO17_1 bO21_0 bO21_1 hc27 hE
    intro D93 w94 hD97 hDl98 h hmk96
    obtain ⟨hs95, hE, bO1_0, bO1_1, bO1_2, bO1_3, bO1_4, bO1_5, bO1_6, bO5_0, bO9_0, bO13_0, bO17_0, bO17_1, hc27, hF⟩ := h
    obtain ⟨hi0, A1, A2, c1, c2, z0, z1, la1, la2, na, ra1, ra2⟩ := hF.resolve_left (fun h => by have := h.1; omega)
    have na9 := Lib.hid na
    refine iqw_block ?_
    refine iqw_then ?_
    refine icw_seq ?_
    refine icw_plain ?_
    refine ipl_take (.agg #[.slice (some ⟨A1, 0, none⟩) 24 c1, .slice (some ⟨A2, 0, none⟩) 24 c2]) rfl (by kernel_rfl) (by kernel_rfl) (by kernel_rfl) (ex_load rfl (by kernel_rfl) (ld40 (z0.1) (z1.1))) ?_
    refine ipl_put rfl (by kernel_rfl) (by kernel_rfl) (sn_set2 (O := O17) (j := 0) (v := .slice (some ⟨A1, 0, none⟩) 24 c1) (v' := .slice (some ⟨A2, 0, none⟩) 24 c2) (ex_store (p := .pointer (some ⟨O17, 0, none⟩)) (v := .agg #[.slice (some ⟨A1, 0, none⟩) 24 c1, .slice (some ⟨A2, 0, none⟩) 24 c2]) rfl (by kernel_rfl) (by kernel_rfl) (st40 bO17_0.1 bO17_0.2 bO17_1.1 bO17_1.2)) bO17_0 bO17_1 ?_)
    intro X99 ho hv0 hv1 hk
    replace hE := ho.ext hE (Nat.le_trans (Nat.le_trans hs3 (Nat.le_trans hs7 (Nat.le_trans hs11 hs15))) (Nat.le_of_eq hzO17))
    replace bO1_0 := ho.box (Nat.ne_of_gt (Nat.lt_of_lt_of_le lt4 (Nat.le_trans (Nat.le_trans hs7 (Nat.le_trans hs11 hs15)) (Nat.le_of_eq hzO17)))) bO1_0
    replace bO1_1 := ho.box (Nat.ne_of_gt (Nat.lt_of_lt_of_le lt4 (Nat.le_trans (Nat.le_trans hs7 (Nat.le_trans hs11 hs15)) (Nat.le_of_eq hzO17)))) bO1_1
    replace bO1_2 := ho.box (Nat.ne_of_gt (Nat.lt_of_lt_of_le lt4 (Nat.le_trans (Nat.le_trans hs7 (Nat.le_trans hs11 hs15)) (Nat.le_of_eq hzO17)))) bO1_2
    replace bO1_3 := ho.box (Nat.ne_of_gt (Nat.lt_of_lt_of_le lt4 (Nat.le_trans (Nat.le_trans hs7 (Nat.le_trans hs11 hs15)) (Nat.le_of_eq hzO17)))) bO1_3
    replace bO1_4 := ho.box (Nat.ne_of_gt (Nat.lt_of_lt_of_le lt4 (Nat.le_trans (Nat.le_trans hs7 (Nat.le_trans hs11 hs15)) (Nat.le_of_eq hzO17)))) bO1_4
    replace bO1_5 := ho.box (Nat.ne_of_gt (Nat.lt_of_lt_of_le lt4 (Nat.le_trans (Nat.le_trans hs7 (Nat.le_trans hs11 hs15)) (Nat.le_of_eq hzO17)))) bO1_5
    replace bO1_6 := ho.box (Nat.ne_of_gt (Nat.lt_of_lt_of_le lt4 (Nat.le_trans (Nat.le_trans hs7 (Nat.le_trans hs11 hs15)) (Nat.le_of_eq hzO17)))) bO1_6
    replace bO5_0 := ho.box (Nat.ne_of_gt (Nat.lt_of_lt_of_le lt8 (Nat.le_trans (Nat.le_trans hs11 hs15) (Nat.le_of_eq hzO17)))) bO5_0
    replace bO9_0 := ho.box (Nat.ne_of_gt (Nat.lt_of_lt_of_le lt12 (Nat.le_trans hs15 (Nat.le_of_eq hzO17)))) bO9_0
    replace bO13_0 := ho.box (Nat.ne_of_gt (Nat.lt_of_lt_of_le lt16 (Nat.le_of_eq hzO17))) bO13_0
    replace hc27 := ho.cell (Nat.ne_of_lt (Nat.lt_of_lt_of_le lt20 (Nat.le_trans hs23 hn26))) hc27
    replace hmk96 := mk_turn hmk96 ho
    replace z0 := ho.box (Nat.ne_of_lt (Nat.lt_of_lt_of_le lt20 (Nat.le_of_eq hzO21))) z0
    replace z1 := ho.box (Nat.ne_of_lt (Nat.lt_of_lt_of_le lt20 (Nat.le_of_eq hzO21))) z1
    replace ra1 := ho.rows (Nat.ne_of_lt (Nat.lt_of_lt_of_le lt20 (Nat.le_trans (Nat.le_trans hs23 hs29) la1))) ra1
    replace ra2 := ho.rows (Nat.ne_of_lt (Nat.lt_of_lt_of_le lt20 (Nat.le_trans (Nat.le_trans hs23 hs29) la2))) ra2
    have hs100 : w94.heap.size ≤ X99.heap.size := Nat.le_of_eq ho.size.symm
    clear ho hk bO17_0 bO17_1
    have bO17_0 := hv0; clear hv0
    have bO17_1 := hv1; clear hv1
    refine ipl_nil ?_
    refine iqw_then ?_
    refine icw_ret ?_
    refine iqw_ret w.heap.size [.agg #[.slice (some ⟨A1, 0, none⟩) 24 c1, .slice (some ⟨A2, 0, none⟩) 24 c2]] rfl (marksC (Nat.le_trans (Nat.le_trans hs3 (Nat.le_trans hs7 (Nat.le_trans hs11 (Nat.le_trans hs15 (Nat.le_trans hs19 (Nat.le_trans hs23 hs29)))))) hD97) hmk96 (fun _ h => by cases h)) (by simp) (fun W9 hm9 => ?_)
    replace hE := hm9.ext hE (Nat.le_refl _)
    replace bO1_0 := hm9.box bO1_0
    replace bO1_1 := hm9.box bO1_1
    replace bO1_2 := hm9.box bO1_2
    replace bO1_3 := hm9.box bO1_3
    replace bO1_4 := hm9.box bO1_4
    replace bO1_5 := hm9.box bO1_5
    replace bO1_6 := hm9.box bO1_6
    replace bO5_0 := hm9.box bO5_0
    replace bO9_0 := hm9.box bO9_0
    replace bO13_0 := hm9.box bO13_0
    replace hc27 := hm9.cell hc27
    replace z0 := hm9.box z0
    replace z1 := hm9.box z1
    replace ra1 := hm9.rows ra1
    replace ra2 := hm9.rows ra2
    replace bO17_0 := hm9.box bO17_0
    replace bO17_1 := hm9.box bO17_1
    have hs101 := hm9.size
    refine ⟨⟨⟨_, by kernel_rfl, res_ld (ld40 (bO17_0.1) (bO17_1.1))⟩, trivial⟩, ?_⟩
    exact ⟨A1, A2, _, _, rfl, (Nat.le_trans (Nat.le_trans hs3 (Nat.le_trans hs7 (Nat.le_trans hs11 (Nat.le_trans hs15 (Nat.le_trans hs19 (Nat.le_trans hs23 hs29)))))) la1), (Nat.le_trans (Nat.le_trans hs3 (Nat.le_trans hs7 (Nat.le_trans hs11 (Nat.le_trans hs15 (Nat.le_trans hs19 (Nat.le_trans hs23 hs29)))))) la2), na9.out, ra1, ra2, hE⟩
  · intro _ _ _ _ _ _ _ h _; exact h.elim

end Go.Proofs.YtajdohcgjgknmaaGreatDoor

/- Contracts of package swath: Strip, Shown, Shows. -/
namespace Go.Proofs.YtajdohcgjgknmaaGreatDoor
open Go.RowKit

def RetSE (w : World) (L1 L2 : List Int) (e : Ending) (w' : World) : Prop :=
  ∃ B g c1 c2 : Nat, e = .returned (.tuple #[.agg #[.slice (some ⟨B, 0, none⟩) 24 c1, .slice (some ⟨g, 0, none⟩) 24 c2], .int .i64 0]) ∧ w.heap.size ≤ B ∧ w.heap.size ≤ g ∧ B ≠ g ∧ RowsAt w' B L1 ∧ RowsAt w' g L2 ∧ Ext w w'
def shdB (o : Orb) (s : Int × Int) (lk d : Int) : Bool := Swath.shB o s lk && Globe.inB d (-o.sl) o.sl
set_option maxRecDepth 1000000 in
set_option maxHeartbeats 4000000 in
theorem Strip_y {o : Orb} {s : Int × Int} {lk : Int} (w : World) (hv : Swath.shB o s lk = true) : Calls Tryz.prog 8 #[.agg #[.int .i64 o.p, .int .i64 o.f, .int .i64 o.lo, .int .i64 o.hi, .int .i64 o.nd, .int .i64 o.tn, .int .i64 o.sl], .agg #[.int .i64 s.1, .int .i64 s.2], .int .i64 lk] w (RetSE w (Swath.sureL o s lk) (Swath.canL o s lk)) := by
  refine calls_cw 21 [(2, .int .i64 (lk : Int)), (1, .agg #[.int .i64 (s.1 : Int), .int .i64 (s.2 : Int)]), (0, .agg #[.int .i64 (o.p : Int), .int .i64 (o.f : Int), .int .i64 (o.lo : Int), .int .i64 (o.hi : Int), .int .i64 (o.nd : Int), .int .i64 (o.tn : Int), .int .i64 (o.sl : Int)])] Tryz.func8 rfl Tryz.ntmps8 (by kernel_rfl) (by kernel_rfl) (fun L => ?_)
  have hE : Ext w w := Ext.refl w
  refine cw_seq ?_
  refine cw_plain ?_
  refine pl_step rfl (by kernel_rfl) (by kernel_rfl) (by kernel_rfl) (sn_new (us := #[.int .i64 (o.p : Int), .int .i64 (o.f : Int), .int .i64 (o.lo : Int), .int .i64 (o.hi : Int), .int .i64 (o.nd : Int), .int .i64 (o.tn : Int), .int .i64 (o.sl : Int)]) (t := 26) (by kernel_rfl) ?_)
  intro O1 X2 hO hOs hb hbx
  have hzO1 := hO; have hyO1 := hOs; clear hO hOs
  have bO1_0 : BoxAt X2 O1 0 (.int .i64 (o.p : Int)) := hbx 0 _ rfl
  have bO1_1 : BoxAt X2 O1 1 (.int .i64 (o.f : Int)) := hbx 1 _ rfl
  have bO1_2 : BoxAt X2 O1 2 (.int .i64 (o.lo : Int)) := hbx 2 _ rfl
  have bO1_3 : BoxAt X2 O1 3 (.int .i64 (o.hi : Int)) := hbx 3 _ rfl
  have bO1_4 : BoxAt X2 O1 4 (.int .i64 (o.nd : Int)) := hbx 4 _ rfl
  have bO1_5 : BoxAt X2 O1 5 (.int .i64 (o.tn : Int)) := hbx 5 _ rfl
  have bO1_6 : BoxAt X2 O1 6 (.int .i64 (o.sl : Int)) := hbx 6 _ rfl
  clear hbx
  replace hE := hE.trans hb
  have hs3 := hb.size
  clear hb
  have lt4 := bO1_0.lt
  refine pl_step rfl (by kernel_rfl) (by kernel_rfl) (by kernel_rfl) (sn_new (us := #[.int .i64 (s.1 : Int), .int .i64 (s.2 : Int)]) (t := 38) (by kernel_rfl) ?_)
  intro O5 X6 hO hOs hb hbx
  have hzO5 := hO; have hyO5 := hOs; clear hO hOs
  have bO5_0 : BoxAt X6 O5 0 (.int .i64 (s.1 : Int)) := hbx 0 _ rfl
  have bO5_1 : BoxAt X6 O5 1 (.int .i64 (s.2 : Int)) := hbx 1 _ rfl
  clear hbx
  replace hE := hE.trans hb
  replace bO1_0 := BoxAt.ext hb bO1_0
  replace bO1_1 := BoxAt.ext hb bO1_1
  replace bO1_2 := BoxAt.ext hb bO1_2
  replace bO1_3 := BoxAt.ext hb bO1_3
  replace bO1_4 := BoxAt.ext hb bO1_4
  replace bO1_5 := BoxAt.ext hb bO1_5
  replace bO1_6 := BoxAt.ext hb bO1_6
  have hs7 := hb.size
  clear hb
  have lt8 := bO5_0.lt
  refine pl_step rfl (by kernel_rfl) (by kernel_rfl) (by kernel_rfl) (sn_new (us := #[.int .i64 (lk : Int)]) (t := 3) (by kernel_rfl) ?_)
  intro O9 X10 hO hOs hb hbx
  have hzO9 := hO; have hyO9 := hOs; clear hO hOs
  have bO9_0 : BoxAt X10 O9 0 (.int .i64 (lk : Int)) := hbx 0 _ rfl
  clear hbx
  replace hE := hE.trans hb
  replace bO1_0 := BoxAt.ext hb bO1_0
  replace bO1_1 := BoxAt.ext hb bO1_1
  replace bO1_2 := BoxAt.ext hb bO1_2
  replace bO1_3 := BoxAt.ext hb bO1_3
  replace bO1_4 := BoxAt.ext hb bO1_4
  replace bO1_5 := BoxAt.ext hb bO1_5
  replace bO1_6 := BoxAt.ext hb bO1_6
  replace bO5_0 := BoxAt.ext hb bO5_0
  replace bO5_1 := BoxAt.ext hb bO5_1
  have hs11 := hb.size
  clear hb
  have lt12 := bO9_0.lt
  refine pl_step rfl (by kernel_rfl) (by kernel_rfl) (by kernel_rfl) (sn_new (us := #[.slice none 0 0, .slice none 0 0]) (t := 40) (by kernel_rfl) ?_)
  intro O13 X14 hO hOs hb hbx
  have hzO13 := hO; have hyO13 := hOs; clear hO hOs
  have bO13_0 : BoxAt X14 O13 0 (.slice none 0 0) := hbx 0 _ rfl
  have bO13_1 : BoxAt X14 O13 1 (.slice none 0 0) := hbx 1 _ rfl
  clear hbx
  replace hE := hE.trans hb
  replace bO1_0 := BoxAt.ext hb bO1_0
  replace bO1_1 := BoxAt.ext hb bO1_1
  replace bO1_2 := BoxAt.ext hb bO1_2
  replace bO1_3 := BoxAt.ext hb bO1_3
  replace bO1_4 := BoxAt.ext hb bO1_4
  replace bO1_5 := BoxAt.ext hb bO1_5
  replace bO1_6 := BoxAt.ext hb bO1_6
  replace bO5_0 := BoxAt.ext hb bO5_0
  replace bO5_1 := BoxAt.ext hb bO5_1
  replace bO9_0 := BoxAt.ext hb bO9_0
  have hs15 := hb.size
  clear hb
  have lt16 := bO13_0.lt
  refine pl_take (.int .i64 0) rfl (by kernel_rfl) (by kernel_rfl) (by kernel_rfl) (by kernel_rfl) ?_
  refine pl_nil ?_
  refine qw_then ?_
  refine cw_seq ?_
  refine cw_seq ?_
  have hX17 : Ext X14 X14 := Ext.refl _
  refine cw_plain ?_
  refine pl_take (.agg #[.int .i64 (o.p : Int), .int .i64 (o.f : Int), .int .i64 (o.lo : Int), .int .i64 (o.hi : Int), .int .i64 (o.nd : Int), .int .i64 (o.tn : Int), .int .i64 (o.sl : Int)]) rfl (by kernel_rfl) (by kernel_rfl) (by kernel_rfl) (ex_load rfl (by kernel_rfl) (ld26 (bO1_0.1) (bO1_1.1) (bO1_2.1) (bO1_3.1) (bO1_4.1) (bO1_5.1) (bO1_6.1))) ?_
  refine pl_take (.agg #[.int .i64 (s.1 : Int), .int .i64 (s.2 : Int)]) rfl (by kernel_rfl) (by kernel_rfl) (by kernel_rfl) (ex_load rfl (by kernel_rfl) (ld38 (bO5_0.1) (bO5_1.1))) ?_
  refine pl_take (.int .i64 (lk : Int)) rfl (by kernel_rfl) (by kernel_rfl) (by kernel_rfl) (ex_load rfl (by kernel_rfl) (ld3 (bO9_0.1))) ?_
  refine pl_step rfl (by kernel_rfl) (by kernel_rfl) (by kernel_rfl) (sn_call (f := 40) (args := #[.agg #[.int .i64 (o.p : Int), .int .i64 (o.f : Int), .int .i64 (o.lo : Int), .int .i64 (o.hi : Int), .int .i64 (o.nd : Int), .int .i64 (o.tn : Int), .int .i64 (o.sl : Int)], .agg #[.int .i64 (s.1 : Int), .int .i64 (s.2 : Int)], .int .i64 (lk : Int)]) (by kernel_rfl) ((sValid_r (r := true) o s lk _ (hv)).mono ?_))
  rintro e w18 ⟨rfl, hb⟩
  replace hE := hE.trans hb
  replace hX17 := hX17.trans hb
  have hs19 := hb.size
  clear hb
  refine ⟨_, rfl, ?_⟩
  refine pl_take (.bool false) rfl (by kernel_rfl) (by kernel_rfl) (by kernel_rfl) (by kernel_rfl) ?_
  refine pl_nil ?_
  refine qw_then ?_
  refine cw_f (by kernel_rfl) ?_
  refine cw_skip ?_
  refine qw_then ?_
  refine cw_seq ?_
  refine cw_plain ?_
  refine pl_take (.func (.func 41) #[] #[.pointer (some ⟨O1, 0, none⟩), .pointer (some ⟨O5, 0, none⟩), .pointer (some ⟨O9, 0, none⟩)]) rfl (by kernel_rfl) (by kernel_rfl) (by kernel_rfl) (by kernel_rfl) ?_
  refine pl_take (.func (.func 41) #[] #[.pointer (some ⟨O1, 0, none⟩), .pointer (some ⟨O5, 0, none⟩), .pointer (some ⟨O9, 0, none⟩)]) rfl (by kernel_rfl) (by kernel_rfl) (by kernel_rfl) (by kernel_rfl) ?_
  refine pl_nil ?_
  refine qw_then ?_
  refine cw_clean [3, 6, 8] (ws' := [(3, .pointer (some ⟨O1, 0, none⟩)), (6, .pointer (some ⟨O13, 0, none⟩)), (8, .func (.func 41) #[] #[.pointer (some ⟨O1, 0, none⟩), .pointer (some ⟨O5, 0, none⟩), .pointer (some ⟨O9, 0, none⟩)])]) (by kernel_rfl) (fun L => ?_)
  refine cw_seq ?_
  refine cw_plain ?_
  refine pl_take (.func (.func 43) #[] #[]) rfl (by kernel_rfl) (by kernel_rfl) (by kernel_rfl) (by kernel_rfl) ?_
  refine pl_nil ?_
  refine qw_then ?_
  refine cw_seq ?_
  refine cw_plain ?_
  refine pl_take (.agg #[.int .i64 (o.p : Int), .int .i64 (o.f : Int), .int .i64 (o.lo : Int), .int .i64 (o.hi : Int), .int .i64 (o.nd : Int), .int .i64 (o.tn : Int), .int .i64 (o.sl : Int)]) rfl (by kernel_rfl) (by kernel_rfl) (by kernel_rfl) (ex_load rfl (by kernel_rfl) (ld26 ((BoxAt.ext hX17 bO1_0).1) ((BoxAt.ext hX17 bO1_1).1) ((BoxAt.ext hX17 bO1_2).1) ((BoxAt.ext hX17 bO1_3).1) ((BoxAt.ext hX17 bO1_4).1) ((BoxAt.ext hX17 bO1_5).1) ((BoxAt.ext hX17 bO1_6).1))) ?_
  refine pl_take (.func (.func 41) #[] #[.pointer (some ⟨O1, 0, none⟩), .pointer (some ⟨O5, 0, none⟩), .pointer (some ⟨O9, 0, none⟩)]) rfl (by kernel_rfl) (by kernel_rfl) (by kernel_rfl) (by kernel_rfl) ?_
  refine pl_take (.func (.func 43) #[] #[]) rfl (by kernel_rfl) (by kernel_rfl) (by kernel_rfl) (by kernel_rfl) ?_
  refine pl_step rfl (by kernel_rfl) (by kernel_rfl) (by kernel_rfl) (sn_call (f := 44) (args := #[.agg #[.int .i64 (o.p : Int), .int .i64 (o.f : Int), .int .i64 (o.lo : Int), .int .i64 (o.hi : Int), .int .i64 (o.nd : Int), .int .i64 (o.tn : Int), .int .i64 (o.sl : Int)], .func (.func 41) #[] #[.pointer (some ⟨O1, 0, none⟩), .pointer (some ⟨O5, 0, none⟩), .pointer (some ⟨O9, 0, none⟩)], .func (.func 45) #[] #[], .func (.func 43) #[] #[]]) (by kernel_rfl) ((foldS_c _ ⟨⟨(BoxAt.ext hX17 bO1_0).1, (BoxAt.ext hX17 bO1_1).1, (BoxAt.ext hX17 bO1_2).1, (BoxAt.ext hX17 bO1_3).1, (BoxAt.ext hX17 bO1_4).1, (BoxAt.ext hX17 bO1_5).1, (BoxAt.ext hX17 bO1_6).1⟩, (BoxAt.ext hX17 bO5_0).1, (BoxAt.ext hX17 bO5_1).1, (BoxAt.ext hX17 bO9_0).1⟩ (Ext.refl _) hv).mono ?_))
  rintro e w29 ⟨B20, g21, k22, k23, rfl, hn24, hn25, hne26, hr27, hr28, hb⟩
  replace hE := hE.trans hb
  replace hX17 := hX17.trans hb
  have hs30 := hb.size
  clear hb
  have lt31 := hr27.lt
  have lt32 := hr28.lt
  have hne26h := Lib.hid hne26
  refine ⟨_, rfl, ?_⟩
  have bO1_t34 := (BoxAt.ext hX17 bO1_0)
  have bO1_t35 := (BoxAt.ext hX17 bO1_1)
  have bO1_t36 := (BoxAt.ext hX17 bO1_2)
  have bO1_t37 := (BoxAt.ext hX17 bO1_3)
  have bO1_t38 := (BoxAt.ext hX17 bO1_4)
  have bO1_t39 := (BoxAt.ext hX17 bO1_5)
  have bO1_t40 := (BoxAt.ext hX17 bO1_6)
  have bO5_t41 := (BoxAt.ext hX17 bO5_0)
  have bO5_t42 := (BoxAt.ext hX17 bO5_1)
  have bO9_t43 := (BoxAt.ext hX17 bO9_0)
  have bO13_t44 := (BoxAt.ext hX17 bO13_0)
  have bO13_t45 := (BoxAt.ext hX17 bO13_1)
  refine pl_put rfl (by kernel_rfl) (by kernel_rfl) (sn_set2 (O := O13) (j := 0) (v := .slice (some ⟨B20, 0, none⟩) 24 k22) (v' := .slice (some ⟨g21, 0, none⟩) 24 k23) (ex_store (p := .pointer (some ⟨O13, 0, none⟩)) (v := .agg #[.slice (some ⟨B20, 0, none⟩) 24 k22, .slice (some ⟨g21, 0, none⟩) 24 k23]) rfl (by kernel_rfl) (by kernel_rfl) (st40 bO13_t44.1 bO13_t44.2 bO13_t45.1 bO13_t45.2)) bO13_t44 bO13_t45 ?_)
  intro X33 ho hv0 hv1 hk
  replace hE := ho.ext hE (Nat.le_trans (Nat.le_trans hs3 (Nat.le_trans hs7 hs11)) (Nat.le_of_eq hzO13))
  replace bO1_t34 := ho.box (Nat.ne_of_gt (Nat.lt_of_lt_of_le lt4 (Nat.le_trans (Nat.le_trans hs7 hs11) (Nat.le_of_eq hzO13)))) bO1_t34
  replace bO1_t35 := ho.box (Nat.ne_of_gt (Nat.lt_of_lt_of_le lt4 (Nat.le_trans (Nat.le_trans hs7 hs11) (Nat.le_of_eq hzO13)))) bO1_t35
  replace bO1_t36 := ho.box (Nat.ne_of_gt (Nat.lt_of_lt_of_le lt4 (Nat.le_trans (Nat.le_trans hs7 hs11) (Nat.le_of_eq hzO13)))) bO1_t36
  replace bO1_t37 := ho.box (Nat.ne_of_gt (Nat.lt_of_lt_of_le lt4 (Nat.le_trans (Nat.le_trans hs7 hs11) (Nat.le_of_eq hzO13)))) bO1_t37
  replace bO1_t38 := ho.box (Nat.ne_of_gt (Nat.lt_of_lt_of_le lt4 (Nat.le_trans (Nat.le_trans hs7 hs11) (Nat.le_of_eq hzO13)))) bO1_t38
  replace bO1_t39 := ho.box (Nat.ne_of_gt (Nat.lt_of_lt_of_le lt4 (Nat.le_trans (Nat.le_trans hs7 hs11) (Nat.le_of_eq hzO13)))) bO1_t39
  replace bO1_t40 := ho.box (Nat.ne_of_gt (Nat.lt_of_lt_of_le lt4 (Nat.le_trans (Nat.le_trans hs7 hs11) (Nat.le_of_eq hzO13)))) bO1_t40
  replace bO5_t41 := ho.box (Nat.ne_of_gt (Nat.lt_of_lt_of_le lt8 (Nat.le_trans hs11 (Nat.le_of_eq hzO13)))) bO5_t41
  replace bO5_t42 := ho.box (Nat.ne_of_gt (Nat.lt_of_lt_of_le lt8 (Nat.le_trans hs11 (Nat.le_of_eq hzO13)))) bO5_t42
  replace bO9_t43 := ho.box (Nat.ne_of_gt (Nat.lt_of_lt_of_le lt12 (Nat.le_of_eq hzO13))) bO9_t43
  replace hr27 := ho.rows (Nat.ne_of_lt (Nat.lt_of_lt_of_le lt16 (Nat.le_trans hs19 hn24))) hr27
  replace hr28 := ho.rows (Nat.ne_of_lt (Nat.lt_of_lt_of_le lt16 (Nat.le_trans hs19 hn25))) hr28
  have hs46 : w29.heap.size ≤ X33.heap.size := Nat.le_of_eq ho.size.symm
  clear ho hk bO13_t44 bO13_t45
  have bO13_t44 := hv0; clear hv0
  have bO13_t45 := hv1; clear hv1
  refine pl_take (.int .i64 0) rfl (by kernel_rfl) (by kernel_rfl) (by kernel_rfl) (by kernel_rfl) ?_
  refine pl_nil ?_
  refine qw_then ?_
  refine cw_ret ?_
  refine qw_ret [.agg #[.slice (some ⟨B20, 0, none⟩) 24 k22, .slice (some ⟨g21, 0, none⟩) 24 k23], .int .i64 0] rfl ⟨⟨_, by kernel_rfl, res_ld (ld40 (bO13_t44.1) (bO13_t45.1))⟩, (by kernel_rfl), trivial⟩ ?_
  exact ⟨B20, g21, _, _, rfl, (Nat.le_trans (Nat.le_trans hs3 (Nat.le_trans hs7 (Nat.le_trans hs11 (Nat.le_trans hs15 hs19)))) hn24), (Nat.le_trans (Nat.le_trans hs3 (Nat.le_trans hs7 (Nat.le_trans hs11 (Nat.le_trans hs15 hs19)))) hn25), hne26h.out, hr27, hr28, hE⟩
set_option maxRecDepth 1000000 in
set_option maxHeartbeats 4000000 in
theorem Shown_y {o : Orb} {s : Int × Int} {lk d : Int} (w : World) (hd8 : shdB o s lk d = true) : Calls Tryz.prog 9 #[.agg #[.int .i64 o.p, .int .i64 o.f, .int .i64 o.lo, .int .i64 o.hi, .int .i64 o.nd, .int .i64 o.tn, .int .i64 o.sl], .agg #[.int .i64 s.1, .int .i64 s.2], .int .i64 lk, .int .i64 d] w (RetAE w (Swath.showL o lk (s.1 - d) (s.2 - s.1).toNat)) := by
  obtain ⟨hv, hd9⟩ := Bool.and_eq_true_iff.1 hd8
  have hq0 := Orb.ok_t.1 (Swath.shB_t.1 hv).1
  refine calls_cw 31 [(3, .int .i64 (d : Int)), (2, .int .i64 (lk : Int)), (1, .agg #[.int .i64 (s.1 : Int), .int .i64 (s.2 : Int)]), (0, .agg #[.int .i64 (o.p : Int), .int .i64 (o.f : Int), .int .i64 (o.lo : Int), .int .i64 (o.hi : Int), .int .i64 (o.nd : Int), .int .i64 (o.tn : Int), .int .i64 (o.sl : Int)])] Tryz.func9 rfl Tryz.ntmps9 (by kernel_rfl) (by kernel_rfl) (fun L => ?_)
  have hE : Ext w w := Ext.refl w
  refine cw_seq ?_
  refine cw_plain ?_
  refine pl_step rfl (by kernel_rfl) (by kernel_rfl) (by kernel_rfl) (sn_new (us := #[.int .i64 (o.p : Int), .int .i64 (o.f : Int), .int .i64 (o.lo : Int), .int .i64 (o.hi : Int), .int .i64 (o.nd : Int), .int .i64 (o.tn : Int), .int .i64 (o.sl : Int)]) (t := 26) (by kernel_rfl) ?_)
  intro O1 X2 hO hOs hb hbx
  have hzO1 := hO; have hyO1 := hOs; clear hO hOs
  have bO1_0 : BoxAt X2 O1 0 (.int .i64 (o.p : Int)) := hbx 0 _ rfl
  have bO1_1 : BoxAt X2 O1 1 (.int .i64 (o.f : Int)) := hbx 1 _ rfl
  have bO1_2 : BoxAt X2 O1 2 (.int .i64 (o.lo : Int)) := hbx 2 _ rfl
  have bO1_3 : BoxAt X2 O1 3 (.int .i64 (o.hi : Int)) := hbx 3 _ rfl
  have bO1_4 : BoxAt X2 O1 4 (.int .i64 (o.nd : Int)) := hbx 4 _ rfl
  have bO1_5 : BoxAt X2 O1 5 (.int .i64 (o.tn : Int)) := hbx 5 _ rfl
  have bO1_6 : BoxAt X2 O1 6 (.int .i64 (o.sl : Int)) := hbx 6 _ rfl
  clear hbx
  replace hE := hE.trans hb
  have hs3 := hb.size
  clear hb
  have lt4 := bO1_0.lt
  refine pl_step rfl (by kernel_rfl) (by kernel_rfl) (by kernel_rfl) (sn_new (us := #[.int .i64 (s.1 : Int), .int .i64 (s.2 : Int)]) (t := 38) (by kernel_rfl) ?_)
  intro O5 X6 hO hOs hb hbx
  have hzO5 := hO; have hyO5 := hOs; clear hO hOs
  have bO5_0 : BoxAt X6 O5 0 (.int .i64 (s.1 : Int)) := hbx 0 _ rfl
  have bO5_1 : BoxAt X6 O5 1 (.int .i64 (s.2 : Int)) := hbx 1 _ rfl
  clear hbx
  replace hE := hE.trans hb
  replace bO1_0 := BoxAt.ext hb bO1_0
  replace bO1_1 := BoxAt.ext hb bO1_1
  replace bO1_2 := BoxAt.ext hb bO1_2
  replace bO1_3 := BoxAt.ext hb bO1_3
  replace bO1_4 := BoxAt.ext hb bO1_4
  replace bO1_5 := BoxAt.ext hb bO1_5
  replace bO1_6 := BoxAt.ext hb bO1_6
  have hs7 := hb.size
  clear hb
  have lt8 := bO5_0.lt
  refine pl_step rfl (by kernel_rfl) (by kernel_rfl) (by kernel_rfl) (sn_new (us := #[.slice none 0 0]) (t := 33) (by kernel_rfl) ?_)
  intro O9 X10 hO hOs hb hbx
  have hzO9 := hO; have hyO9 := hOs; clear hO hOs
  have bO9_0 : BoxAt X10 O9 0 (.slice none 0 0) := hbx 0 _ rfl
  clear hbx
  replace hE := hE.trans hb
  replace bO1_0 := BoxAt.ext hb bO1_0
  replace bO1_1 := BoxAt.ext hb bO1_1
  replace bO1_2 := BoxAt.ext hb bO1_2
  replace bO1_3 := BoxAt.ext hb bO1_3
  replace bO1_4 := BoxAt.ext hb bO1_4
  replace bO1_5 := BoxAt.ext hb bO1_5
  replace bO1_6 := BoxAt.ext hb bO1_6
  replace bO5_0 := BoxAt.ext hb bO5_0
  replace bO5_1 := BoxAt.ext hb bO5_1
  have hs11 := hb.size
  clear hb
  have lt12 := bO9_0.lt
  refine pl_take (.int .i64 0) rfl (by kernel_rfl) (by kernel_rfl) (by kernel_rfl) (by kernel_rfl) ?_
  refine pl_nil ?_
  refine qw_then ?_
  refine cw_seq ?_
  refine cw_seq ?_
  have hX13 : Ext X10 X10 := Ext.refl _
  refine cw_plain ?_
  refine pl_take (.agg #[.int .i64 (o.p : Int), .int .i64 (o.f : Int), .int .i64 (o.lo : Int), .int .i64 (o.hi : Int), .int .i64 (o.nd : Int), .int .i64 (o.tn : Int), .int .i64 (o.sl : Int)]) rfl (by kernel_rfl) (by kernel_rfl) (by kernel_rfl) (ex_load rfl (by kernel_rfl) (ld26 (bO1_0.1) (bO1_1.1) (bO1_2.1) (bO1_3.1) (bO1_4.1) (bO1_5.1) (bO1_6.1))) ?_
  refine pl_take (.agg #[.int .i64 (s.1 : Int), .int .i64 (s.2 : Int)]) rfl (by kernel_rfl) (by kernel_rfl) (by kernel_rfl) (ex_load rfl (by kernel_rfl) (ld38 (bO5_0.1) (bO5_1.1))) ?_
  refine pl_take (.int .i64 (lk : Int)) rfl (by kernel_rfl) (by kernel_rfl) (by kernel_rfl) (by kernel_rfl) ?_
  refine pl_step rfl (by kernel_rfl) (by kernel_rfl) (by kernel_rfl) (sn_call (f := 40) (args := #[.agg #[.int .i64 (o.p : Int), .int .i64 (o.f : Int), .int .i64 (o.lo : Int), .int .i64 (o.hi : Int), .int .i64 (o.nd : Int), .int .i64 (o.tn : Int), .int .i64 (o.sl : Int)], .agg #[.int .i64 (s.1 : Int), .int .i64 (s.2 : Int)], .int .i64 (lk : Int)]) (by kernel_rfl) ((sValid_r (r := true) o s lk _ (hv)).mono ?_))
  rintro e w14 ⟨rfl, hb⟩
  replace hE := hE.trans hb
  replace hX13 := hX13.trans hb
  have hs15 := hb.size
  clear hb
  refine ⟨_, rfl, ?_⟩
  refine pl_take (.bool false) rfl (by kernel_rfl) (by kernel_rfl) (by kernel_rfl) (by kernel_rfl) ?_
  refine pl_take (.bool false) rfl (by kernel_rfl) (by kernel_rfl) (by kernel_rfl) (by kernel_rfl) ?_
  refine pl_take (.int .i64 (d : Int)) rfl (by kernel_rfl) (by kernel_rfl) (by kernel_rfl) (by kernel_rfl) ?_
  refine pl_take (.pointer (some ⟨O1, 6, none⟩)) rfl (by kernel_rfl) (by kernel_rfl) (by kernel_rfl) (by kernel_rfl) ?_
  refine pl_take (.int .i64 (o.sl : Int)) rfl (by kernel_rfl) (by kernel_rfl) (by kernel_rfl) (ex_load rfl (by kernel_rfl) (ld3 ((BoxAt.ext hX13 bO1_6).1))) ?_
  refine pl_take (.int .i64 (-o.sl : Int)) rfl (by kernel_rfl) (by kernel_rfl) (by kernel_rfl) (ev_int (ev_wrap (a := 0 - o.sl) (by kernel_rfl) (by omega) (by omega)) (by omega)) ?_
  refine pl_take (.pointer (some ⟨O1, 6, none⟩)) rfl (by kernel_rfl) (by kernel_rfl) (by kernel_rfl) (by kernel_rfl) ?_
  refine pl_take (.int .i64 (o.sl : Int)) rfl (by kernel_rfl) (by kernel_rfl) (by kernel_rfl) (ex_load rfl (by kernel_rfl) (ld3 ((BoxAt.ext hX13 bO1_6).1))) ?_
  refine pl_step rfl (by kernel_rfl) (by kernel_rfl) (by kernel_rfl) (sn_call (f := 46) (args := #[.int .i64 (d : Int), .int .i64 (-o.sl : Int), .int .i64 (o.sl : Int)]) (by kernel_rfl) ((swath_isIn_r (r := true) d (-o.sl) o.sl _ (hd9)).mono ?_))
  rintro e w16 ⟨rfl, hb⟩
  replace hE := hE.trans hb
  replace hX13 := hX13.trans hb
  have hs17 := hb.size
  clear hb
  refine ⟨_, rfl, ?_⟩
  refine pl_take (.bool false) rfl (by kernel_rfl) (by kernel_rfl) (by kernel_rfl) (by kernel_rfl) ?_
  refine pl_take (.bool false) rfl (by kernel_rfl) (by kernel_rfl) (by kernel_rfl) (by kernel_rfl) ?_
  refine pl_nil ?_
  refine qw_then ?_
  refine cw_clean [2, 3, 4, 5, 8, 24] (ws' := [(2, .int .i64 (lk : Int)), (3, .int .i64 (d : Int)), (4, .pointer (some ⟨O1, 0, none⟩)), (5, .pointer (some ⟨O5, 0, none⟩)), (8, .pointer (some ⟨O9, 0, none⟩)), (24, .bool false)]) (by kernel_rfl) (fun L => ?_)
  refine cw_f (by kernel_rfl) ?_
  refine cw_skip ?_
  refine qw_then ?_
  refine cw_seq ?_
  refine cw_plain ?_
  refine pl_take (.agg #[.int .i64 (o.p : Int), .int .i64 (o.f : Int), .int .i64 (o.lo : Int), .int .i64 (o.hi : Int), .int .i64 (o.nd : Int), .int .i64 (o.tn : Int), .int .i64 (o.sl : Int)]) rfl (by kernel_rfl) (by kernel_rfl) (by kernel_rfl) (ex_load rfl (by kernel_rfl) (ld26 ((BoxAt.ext hX13 bO1_0).1) ((BoxAt.ext hX13 bO1_1).1) ((BoxAt.ext hX13 bO1_2).1) ((BoxAt.ext hX13 bO1_3).1) ((BoxAt.ext hX13 bO1_4).1) ((BoxAt.ext hX13 bO1_5).1) ((BoxAt.ext hX13 bO1_6).1))) ?_
  refine pl_take (.agg #[.int .i64 (s.1 : Int), .int .i64 (s.2 : Int)]) rfl (by kernel_rfl) (by kernel_rfl) (by kernel_rfl) (ex_load rfl (by kernel_rfl) (ld38 ((BoxAt.ext hX13 bO5_0).1) ((BoxAt.ext hX13 bO5_1).1))) ?_
  refine pl_take (.int .i64 (lk : Int)) rfl (by kernel_rfl) (by kernel_rfl) (by kernel_rfl) (by kernel_rfl) ?_
  refine pl_take (.int .i64 (d : Int)) rfl (by kernel_rfl) (by kernel_rfl) (by kernel_rfl) (by kernel_rfl) ?_
  refine pl_step rfl (by kernel_rfl) (by kernel_rfl) (by kernel_rfl) (sn_call (f := 42) (args := #[.agg #[.int .i64 (o.p : Int), .int .i64 (o.f : Int), .int .i64 (o.lo : Int), .int .i64 (o.hi : Int), .int .i64 (o.nd : Int), .int .i64 (o.tn : Int), .int .i64 (o.sl : Int)], .agg #[.int .i64 (s.1 : Int), .int .i64 (s.2 : Int)], .int .i64 (lk : Int), .int .i64 (d : Int)]) (by kernel_rfl) ((area_c o s lk d _ hv hd9).mono ?_))
  rintro e w21 ⟨B18, rfl, hn19, hr20, hb⟩
  replace hE := hE.trans hb
  replace hX13 := hX13.trans hb
  have hs22 := hb.size
  clear hb
  have lt23 := hr20.lt
  refine ⟨_, rfl, ?_⟩
  have bO1_t25 := (BoxAt.ext hX13 bO1_0)
  have bO1_t26 := (BoxAt.ext hX13 bO1_1)
  have bO1_t27 := (BoxAt.ext hX13 bO1_2)
  have bO1_t28 := (BoxAt.ext hX13 bO1_3)
  have bO1_t29 := (BoxAt.ext hX13 bO1_4)
  have bO1_t30 := (BoxAt.ext hX13 bO1_5)
  have bO1_t31 := (BoxAt.ext hX13 bO1_6)
  have bO5_t32 := (BoxAt.ext hX13 bO5_0)
  have bO5_t33 := (BoxAt.ext hX13 bO5_1)
  have bO9_t34 := (BoxAt.ext hX13 bO9_0)
  refine pl_put rfl (by kernel_rfl) (by kernel_rfl) (sn_set (O := O9) (j := 0) (v := .slice (some ⟨B18, 0, none⟩) 24 24) (ex_store (p := .pointer (some ⟨O9, 0, none⟩)) (v := .agg #[.slice (some ⟨B18, 0, none⟩) 24 24]) rfl (by kernel_rfl) (by kernel_rfl) (st33 bO9_t34.1 bO9_t34.2)) bO9_t34 ?_)
  intro X24 ho hv0 hk
  replace hE := ho.ext hE (Nat.le_trans (Nat.le_trans hs3 hs7) (Nat.le_of_eq hzO9))
  replace bO1_t25 := ho.box (Nat.ne_of_gt (Nat.lt_of_lt_of_le lt4 (Nat.le_trans hs7 (Nat.le_of_eq hzO9)))) bO1_t25
  replace bO1_t26 := ho.box (Nat.ne_of_gt (Nat.lt_of_lt_of_le lt4 (Nat.le_trans hs7 (Nat.le_of_eq hzO9)))) bO1_t26
  replace bO1_t27 := ho.box (Nat.ne_of_gt (Nat.lt_of_lt_of_le lt4 (Nat.le_trans hs7 (Nat.le_of_eq hzO9)))) bO1_t27
  replace bO1_t28 := ho.box (Nat.ne_of_gt (Nat.lt_of_lt_of_le lt4 (Nat.le_trans hs7 (Nat.le_of_eq hzO9)))) bO1_t28
  replace bO1_t29 := ho.box (Nat.ne_of_gt (Nat.lt_of_lt_of_le lt4 (Nat.le_trans hs7 (Nat.le_of_eq hzO9)))) bO1_t29
  replace bO1_t30 := ho.box (Nat.ne_of_gt (Nat.lt_of_lt_of_le lt4 (Nat.le_trans hs7 (Nat.le_of_eq hzO9)))) bO1_t30
  replace bO1_t31 := ho.box (Nat.ne_of_gt (Nat.lt_of_lt_of_le lt4 (Nat.le_trans hs7 (Nat.le_of_eq hzO9)))) bO1_t31
  replace bO5_t32 := ho.box (Nat.ne_of_gt (Nat.lt_of_lt_of_le lt8 (Nat.le_of_eq hzO9))) bO5_t32
  replace bO5_t33 := ho.box (Nat.ne_of_gt (Nat.lt_of_lt_of_le lt8 (Nat.le_of_eq hzO9))) bO5_t33
  replace hr20 := ho.rows (Nat.ne_of_lt (Nat.lt_of_lt_of_le lt12 (Nat.le_trans (Nat.le_trans hs15 hs17) hn19))) hr20
  have hs35 : w21.heap.size ≤ X24.heap.size := Nat.le_of_eq ho.size.symm
  clear ho hk bO9_t34
  have bO9_t34 := hv0; clear hv0
  refine pl_take (.int .i64 0) rfl (by kernel_rfl) (by kernel_rfl) (by kernel_rfl) (by kernel_rfl) ?_
  refine pl_nil ?_
  refine qw_then ?_
  refine cw_ret ?_
  refine qw_ret [.agg #[.slice (some ⟨B18, 0, none⟩) 24 24], .int .i64 0] rfl ⟨⟨_, by kernel_rfl, res_ld (ld33 (bO9_t34.1))⟩, (by kernel_rfl), trivial⟩ ?_
  exact ⟨B18, rfl, (Nat.le_trans (Nat.le_trans hs3 (Nat.le_trans hs7 (Nat.le_trans hs11 (Nat.le_trans hs15 hs17)))) hn19), hr20, hE⟩
end Go.Proofs.YtajdohcgjgknmaaGreatDoor

namespace Go.Proofs.YtajdohcgjgknmaaGreatDoor
namespace Sun
def minB (t : Int) : Bool := decide (0 ≤ t ∧ t ≤ 1000000)
def noon (t : Int) : Int := (1440 - t % 1440) * 100 / 3 % 48000
def season (t : Int) : Int :=
 if t / 1440 % 360 ≤ 90 then 12000 + 100 * (t / 1440 % 360) / 3
 else if t / 1440 % 360 ≤ 270 then 12000 + 100 * (180 - t / 1440 % 360) / 3
 else 12000 + 100 * (t / 1440 % 360 - 360) / 3
def away (a b : Int) : Int := max (a - b) (b - a)
def ac (x t : Int) : Int := min (away (1000 * x + 500) (noon t)) (48000 - away (1000 * x + 500) (noon t))
def ds (y t : Int) : Int := away (1000 * y + 500) (season t)
def height (x y t : Int) : Int := max (-90) (90 - 75 * (ac x t + ds y t) / 10000)
def litB (x y t : Int) : Bool := minB t && Globe.vcB x y && decide (0 < height x y t)
def nmin (t : Int) : Nat := (min (1000000 - t) 1440 + 1).toNat
def upto (t : Int) (k : Nat) : List Int := (List.range k).map fun (i : Nat) => t + (i : Int)
def next (x y t : Int) (lit : Bool) : Int := ((upto t (nmin t)).find? fun k => litB x y k == lit).getD (-1)
end Sun
end Go.Proofs.YtajdohcgjgknmaaGreatDoor

namespace Go.Proofs.YtajdohcgjgknmaaGreatDoor
namespace Swath
def hgt (o : Orb) (s : Int × Int) (lk d : Int) (i : Nat) : Int := Sun.height ((sx o lk (s.1 + ((i : Nat) : Int) - d) : Nat) : Int) ((Orb.cy o (s.1 + ((i : Nat) : Int) - d) : Nat) : Int) (s.1 + ((i : Nat) : Int))
def mm (o : Orb) (s : Int × Int) (lk d : Int) : Nat → Int × Int
 | 0 => (90, -90)
 | n + 1 => (min (mm o s lk d n).1 (hgt o s lk d n), max (mm o s lk d n).2 (hgt o s lk d n))
end Swath
end Go.Proofs.YtajdohcgjgknmaaGreatDoor

namespace Go.Proofs.YtajdohcgjgknmaaGreatDoor
namespace Swath
open Globe
theorem has_foldU {A : Nat → List Int} {x y : Nat} (hy : y < 24) : ∀ k, (hasL (foldU A k) x y = true ↔ ∃ j, j < k ∧ hasL (A j) x y = true)
  | 0 => by rw [show foldU A 0 = zeroL from rfl, has_zero]; simp
  | 1 => by
    rw [show foldU A 1 = A 0 from rfl]
    refine ⟨fun h => ⟨0, by omega, h⟩, fun ⟨j, hj, h⟩ => ?_⟩
    obtain rfl : j = 0 := by omega
    exact h
  | k + 2 => by
    rw [show foldU A (k + 2) = unionL (foldU A (k + 1)) (A (k + 1)) from rfl, has_union hy, Bool.or_eq_true, has_foldU hy (k + 1)]
    constructor
    · rintro (⟨j, hj, h⟩ | h)
      · exact ⟨j, by omega, h⟩
      · exact ⟨k + 1, by omega, h⟩
    · rintro ⟨j, hj, h⟩
      rcases Nat.lt_or_ge j (k + 1) with q | q
      · exact .inl ⟨j, q, h⟩
      · obtain rfl : j = k + 1 := by omega
        exact .inr h
theorem has_foldM {A : Nat → List Int} {x y : Nat} (hy : y < 24) : ∀ k, (hasL (foldM A (k + 1)) x y = true ↔ ∀ j, j < k + 1 → hasL (A j) x y = true)
  | 0 => by
    rw [show foldM A (0 + 1) = A 0 from rfl]
    refine ⟨fun h j hj => ?_, fun h => h 0 (by omega)⟩
    obtain rfl : j = 0 := by omega
    exact h
  | k + 1 => by
    rw [show foldM A (k + 1 + 1) = meetL (foldM A (k + 1)) (A (k + 1)) from rfl, has_meet hy, Bool.and_eq_true, has_foldM hy k]
    constructor
    · rintro ⟨h1, h2⟩ j hj
      rcases Nat.lt_or_ge j (k + 1) with q | q
      · exact h1 j q
      · obtain rfl : j = k + 1 := by omega
        exact h2
    · intro h
      exact ⟨fun j hj => h j (by omega), h (k + 1) (by omega)⟩
theorem lates_pos {o : Orb} (h : Orb.ok o = true) : 0 < lates o := by have := Orb.ok_t.1 h; unfold lates; omega
theorem has_can {o : Orb} {s : Int × Int} {lk : Int} {x y : Nat} (hy : y < 24) : hasL (canL o s lk) x y = true ↔ ∃ j, j < lates o ∧ hasL (areaJ o s lk j) x y = true := has_foldU hy _
theorem has_sure {o : Orb} (h : Orb.ok o = true) {s : Int × Int} {lk : Int} {x y : Nat} (hy : y < 24) : hasL (sureL o s lk) x y = true ↔ ∀ j, j < lates o → hasL (areaJ o s lk j) x y = true := by
 have := lates_pos h
 unfold sureL
 obtain ⟨k, hk⟩ : ∃ k, lates o = k + 1 := ⟨lates o - 1, by omega⟩
 rw [hk]; exact has_foldM hy k
theorem sure_in {o : Orb} (h : Orb.ok o = true) (s : Int × Int) (lk : Int) {j : Nat} (hj : j < lates o) : containsB (areaJ o s lk j) (sureL o s lk) = true :=
 (contains_iff (areaJ_valid h s lk j) (sure_valid h _ _)).2 fun _ _ _ hy h2 => (has_sure h hy).1 h2 j hj
theorem can_has {o : Orb} (h : Orb.ok o = true) (s : Int × Int) (lk : Int) {j : Nat} (hj : j < lates o) : containsB (canL o s lk) (areaJ o s lk j) = true :=
 (contains_iff (can_valid h _ _) (areaJ_valid h s lk j)).2 fun _ _ _ hy h2 => (has_can hy).2 ⟨j, hj, h2⟩
theorem can_sure {o : Orb} (h : Orb.ok o = true) (s : Int × Int) (lk : Int) : containsB (canL o s lk) (sureL o s lk) = true :=
 (contains_iff (can_valid h _ _) (sure_valid h _ _)).2 fun _ _ _ hy h2 => (has_can hy).2 ⟨0, lates_pos h, (has_sure h hy).1 h2 0 (lates_pos h)⟩
def mins (s : Int × Int) : Nat := (s.2 - s.1).toNat
section
variable {o : Orb} {s : Int × Int} {lk : Int} (hh : ∀ d i, -90 ≤ hgt o s lk d i ∧ hgt o s lk d i ≤ 90) (h0 : 0 < lates o) (h1 : 0 < mins s)
include hh h0 h1
end
end Swath
end Go.Proofs.YtajdohcgjgknmaaGreatDoor

namespace Go.Proofs.YtajdohcgjgknmaaGreatDoor
open Go.RowKit Go.Shelf
attribute [local go_sem] Oper.semAt_some
structure KeepC (X : Nat → Prop) (A B : World) : Prop where
 size : A.heap.size ≤ B.heap.size
 block : ∀ (k : Nat) (o : Obj), A.heap[k]? = some o → o.isCells = true → ¬ X k → B.heap[k]? = some o
theorem KeepC.refl (X : Nat → Prop) (A : World) : KeepC X A A := ⟨Nat.le_refl _, fun _ _ h _ _ => h⟩
theorem KeepC.trans {X : Nat → Prop} {A B C : World} (h : KeepC X A B) (k : KeepC X B C) : KeepC X A C := ⟨T h.size k.size, fun i o hi hc hx => k.block i o (h.block i o hi hc hx) hc hx⟩
theorem KeepC.of_ext {X : Nat → Prop} {A B : World} (h : Ext A B) : KeepC X A B := ⟨h.size, fun k _ hk _ _ => (Below.block h k (Array.getElem?_eq_some_iff.1 hk).1).trans hk⟩
theorem KeepC.setCell {X : Nat → Prop} (A : World) {p : Addr} (hp : X p.block) (u : Value) : KeepC X A (A.setCell p u) :=
 ⟨by simp [World.setCell], fun k o hk _ hx => (Below.heap_setCell _ _ _ k (fun e => hx (by first | (rw [e]; exact hp) | (rw [← e]; exact hp)))).trans hk⟩
theorem KeepC.putObj {X : Nat → Prop} (W : World) {l : Nat} {o : Obj} (o' : Obj) (h : W.heap[l]? = some o) (hc : o.isCells = false) : KeepC X W (W.putObj l o') :=
 ⟨by simp [World.putObj], fun k o2 hk h2 _ => (World.putObj_heap_other (fun e => by subst e; rw [h] at hk; cases hk; rw [hc] at h2; cases h2)).trans hk⟩
theorem cells_of_cell {W : World} {a : Addr} {v : Value} (h : W.cell? a = some v) : ∃ o, W.heap[a.block]? = some o ∧ o.isCells = true := by
 unfold World.cell? at h
 cases ho : W.heap[a.block]? with
 | none => simp [ho] at h
 | some o => exact ⟨o, rfl, by cases o <;> simp_all [Obj.isCells]⟩
theorem KeepC.cell {X : Nat → Prop} {A B : World} (h : KeepC X A B) {a : Addr} {v : Value} (hc : A.cell? a = some v) (hx : ¬ X a.block) : B.cell? a = some v := by
 obtain ⟨o, ho, hi⟩ := cells_of_cell hc
 rw [World.cell?_of_block (w := A) ((h.block _ o ho hi hx).trans ho.symm)]; exact hc
theorem KeepC.free {X : Nat → Prop} {A B : World} (h : KeepC X A B) {a : Addr} {v : Value} (hc : A.cell? a = some v) (hx : ¬ X a.block) (hf : A.frozen? a = false) : B.frozen? a = false := by
 obtain ⟨o, ho, hi⟩ := cells_of_cell hc
 exact (World.frozen?_of_block ((h.block _ o ho hi hx).trans ho.symm)).trans hf
def intsN (l : List Nat) : List Int := l.map fun (i : Nat) => (i : Int)
theorem intsN_len (l : List Nat) : (intsN l).length = l.length := by simp [intsN]
def ListAt (W : World) (a : Option Addr) (c : Nat) (l : List Nat) : Prop := (l = [] ∧ a = none ∧ c = 0) ∨ (l ≠ [] ∧ l.length ≤ c ∧ ∃ b off, a = some ⟨b, off, none⟩ ∧ ∀ i, i < l.length → W.cell? ⟨b, off + i, none⟩ = some (.int .i64 (Globe.nth (intsN l) i)))
theorem ListAt.ints {W : World} {a : Option Addr} {c : Nat} {l : List Nat} (h : ListAt W a c l) : IntsAt W a (intsN l) := by
 rcases h with ⟨rfl, _⟩ | ⟨_, _, b, off, rfl, h⟩
 · exact .inl (by rfl)
 · exact .inr ⟨b, off, rfl, fun i hi => h i (by rwa [intsN_len] at hi)⟩
theorem ListAt.ext {W W' : World} {a : Option Addr} {c : Nat} {l : List Nat} (h : ListAt W a c l) (hE : Ext W W') : ListAt W' a c l :=
 h.imp id fun ⟨h1, h2, b, off, ha, hc⟩ => ⟨h1, h2, b, off, ha, fun i hi => hE.cell (hc i hi)⟩
theorem ListAt.keep {X : Nat → Prop} {W W' : World} {a : Option Addr} {c : Nat} {l : List Nat} (h : ListAt W a c l) (hk : KeepC X W W') (hx : ∀ b off, a = some ⟨b, off, none⟩ → ¬ X b) : ListAt W' a c l :=
 h.imp id fun ⟨h1, h2, b, off, ha, hc⟩ => ⟨h1, h2, b, off, ha, fun i hi => hk.cell (hc i hi) (hx b off ha)⟩
theorem list_of_own {w : World} {base : Nat} {v : Value} {l : List Nat} (h : w.ownsRow base 3 1 v l.length (intVals (intsN l))) (hl : l ≠ []) : ∃ g k, v = .slice (some ⟨g, 0, none⟩) l.length k ∧ base ≤ g ∧ l.length ≤ k ∧ ListAt w (some ⟨g, 0, none⟩) k l := by
  have hpos : 0 < l.length := List.length_pos_iff.2 hl
  rcases h.2 with ⟨_, h0⟩ | ⟨g, cap, cur, rfl, hb, _, hcap, _⟩
  · omega
  · refine ⟨g, cap, rfl, hb, hcap, .inr ⟨hl, hcap, g, 0, rfl, fun i hi => ?_⟩⟩
    rw [Nat.zero_add, h.cellAt i (by omega)]
    simp [intVals, Globe.nth, intsN, hi]
set_option maxHeartbeats 1000000 in
theorem CloneN_c (a : Option Addr) (c : Nat) (l : List Nat) (w : World) (h : ListAt w a c l) (hl : l.length ≤ 1000) :
    Calls Tryz.prog 61 #[.slice a l.length c] w fun e w' => ∃ a' k, e = .returned (.slice a' l.length k) ∧ ListAt w' a' k l ∧ (∀ b off, a' = some ⟨b, off, none⟩ → off = 0) ∧ Ext w w' := by
  rcases h with ⟨rfl, rfl, rfl⟩ | ⟨hne, hcl, b, o, rfl, hx0⟩
  · have hn : ∀ w, (binOp .eql 24 (.slice none 0 0) (.slice none 0 0)).run Tryz.prog w = .ok (.bool true) w := fun _ => by kernel_rfl
    rw [List.length_nil]
    clear hl
    go_enter Tryz.func61, Tryz.ntmps61
    go_wp2_with fail
    go_ret
    exact ⟨none, 0, rfl, .inl ⟨rfl, rfl, rfl⟩, fun b off e => (by cases e), Ext.refl _⟩
  · obtain ⟨i0, hi, hz0, hz1, hz2⟩ := info_parts (P := Tryz.prog) (e := 3) (z := .int .i64 0) (size := 1) (bytes := 8) (by kernel_rfl)
    have hn : ∀ w, (binOp .eql 24 (.slice (some ⟨b, o, none⟩) l.length c) (.slice none 0 0)).run Tryz.prog w = .ok (.bool false) w := fun _ => by kernel_rfl
    have hx : ∀ j u, (intVals (intsN l))[j]? = some u → w.cell? ((⟨b, o, none⟩ : Addr).add j) = some u := fun j u hj => by
      have hjl : j < (intsN l).length := by rw [← List.length_map (f := Value.int .i64)]; exact (List.getElem?_eq_some_iff.1 hj).1
      have e := intVals_at hjl
      rw [List.getElem?_toArray, hj] at e
      cases e
      rw [Addr.add_mid]; exact hx0 j (by rwa [intsN_len] at hjl)
    have Hx := Lib.hid hx; clear hx hx0
    go_enter Tryz.func61, Tryz.ntmps61
    go_wp2_with (at_builtin; refine wpList_append_own _ rfl _ _ 24 rfl w.heap.size 3 i0 (.int .i64 0) 1 8 Tryz.underlying24 hi hz0 hz1 hz2 rfl (by decide) _ 0 [] rfl (World.ownsRow_made w #[] 0 (Nat.le_refl _) (by unfold maxLen; omega) rfl) ⟨b, o, none⟩ l.length c (intVals (intsN l)) rfl (by simp [intVals, intsN]) (fun j u hj => Ext.cell (by (repeat' (first | (with_reducible assumption) | (with_reducible exact Ext.refl _) | (with_reducible refine Ext.alloc ?_ _) | (with_reducible refine Ext.drew ?_) | (with_reducible refine Ext.drewN ?_ _) | (with_reducible refine Ext.setCell ?_ ?_ _) | (with_reducible refine Ext.trans ?_ (by assumption)) | go_size))) (Hx.out j u hj)) (by simp [intVals, Value.oneCell']) (by unfold maxLen; omega) (by omega) (by simp) ?_; intro v' w3 hown' hg3 hnil3; go_frame)
    have hE : Ext w w3 := ((Below.refl _ w).alloc (Nat.le_refl _) _).grown hg3 (by simp) (fun j e => by simp [Act.eval, Value.ownBlock] at e; omega)
    obtain ⟨g, k, rfl, hg, -, hr⟩ := list_of_own (by simpa using hown') hne
    go_ret
    exact ⟨_, k, rfl, hr, fun b off e => (by cases e; rfl), hE⟩
end Go.Proofs.YtajdohcgjgknmaaGreatDoor

namespace Go.Proofs.YtajdohcgjgknmaaGreatDoor
open Go.RowKit Go.Shelf
attribute [local go_sem] Oper.semAt_some
abbrev YL := Option Addr × Nat × List Nat
def encL (x : YL) : Array Value := #[.slice x.1 x.2.2.length x.2.1]
def PhiL (n : Nat) (x : YL) (W : World) : Prop := ListAt W x.1 x.2.1 x.2.2 ∧ x.2.2.length ≤ 1000 ∧ Globe.asc n 0 x.2.2 ∧ ∀ b off, x.1 = some ⟨b, off, none⟩ → off = 0
def WB (X : Nat → Prop) (Kb Yb Nb Wb l n k : Nat) (W : World) : Prop :=
 W.cell? ⟨Kb, 0, none⟩ = some (.int .i64 k) ∧ W.cell? ⟨Yb, 0, none⟩ = some (.func (.yield l) #[] #[]) ∧ W.cell? ⟨Nb, 0, none⟩ = some (.int .i64 n) ∧
 W.cell? ⟨Wb, 0, none⟩ = some (.func (.func 107) #[] #[.pointer (some ⟨Kb, 0, none⟩), .pointer (some ⟨Yb, 0, none⟩), .pointer (some ⟨Nb, 0, none⟩), .pointer (some ⟨Wb, 0, none⟩)]) ∧ ¬ X Kb ∧ ¬ X Yb ∧ ¬ X Nb ∧ ¬ X Wb
theorem WB.keep {X : Nat → Prop} {Kb Yb Nb Wb l n k : Nat} {W W' : World} (h : WB X Kb Yb Nb Wb l n k W) (hk : KeepC X W W') : WB X Kb Yb Nb Wb l n k W' := by
 obtain ⟨h1, h2, h3, h4, x1, x2, x3, x4⟩ := h
 exact ⟨hk.cell h1 x1, hk.cell h2 x2, hk.cell h3 x3, hk.cell h4 x4, x1, x2, x3, x4⟩
def WPost (X : Nat → Prop) (J Jx : List YL → World → Prop) (n m : Nat) (lst : List Nat) (next : Nat) (pre : List YL) (W : World) (e : Ending) (W' : World) : Prop :=
 (e = .returned (.bool true) ∧ ∃ xs : List YL, xs.map (fun x => x.2.2) = Globe.combs n m lst next ∧ J (pre ++ xs) W' ∧ KeepC X W W') ∨
 (e = .returned (.bool false) ∧ ∃ q : List YL, q.map (fun x => x.2.2) <+: Globe.combs n m lst next ∧ Jx (pre ++ q) W' ∧ KeepC X W W')
theorem two_ends {e : Ending} {A B : Prop} (h : (e = .returned (.bool true) ∧ A) ∨ (e = .returned (.bool false) ∧ B)) : ∃ r, e = .returned (.bool r) ∧ Hid ((r = true ∧ A) ∨ (r = false ∧ B)) := by
 rcases h with ⟨rfl, q⟩ | ⟨rfl, q⟩
 · exact ⟨_, rfl, .inl ⟨rfl, q⟩⟩
 · exact ⟨_, rfl, .inr ⟨rfl, q⟩⟩
set_option maxHeartbeats 2000000 in
theorem walk0 {X : Nat → Prop} {Kb Yb Nb Wb l n k : Nat} {J Jx : List YL → World → Prop} {B0 : Nat} (hJ : AbidesFrom B0 J)
  (hY : ∀ pre x W1 m, J pre W1 → PhiL n x W1 → YieldAt Fence.wide m Tryz.prog l (encL x) W1 fun e W' => (e = .returned (.bool true) ∧ J (pre ++ [x]) W' ∧ KeepC X W1 W') ∨ (e = .returned (.bool false) ∧ Jx (pre ++ [x]) W' ∧ KeepC X W1 W'))
  (a : Option Addr) (c : Nat) (lst : List Nat) (next d : Nat) (pre : List YL) (W : World) (hlen : lst.length = k) (hk : k ≤ 1000) (hl : ListAt W a c lst) (ha : Globe.asc n 0 lst) (hb : WB X Kb Yb Nb Wb l n k W) (hJ0 : J pre W) :
  CallsIn Fence.wide d Tryz.prog 107 #[.slice a lst.length c, .int .i64 next, .pointer (some ⟨Kb, 0, none⟩), .pointer (some ⟨Yb, 0, none⟩), .pointer (some ⟨Nb, 0, none⟩), .pointer (some ⟨Wb, 0, none⟩)] W (WPost X J Jx n 0 lst next pre W) := by
 obtain ⟨h1, h2, h3, h4, x1, x2, x3, x4⟩ := hb
 subst hlen
 refine callsIn_of_wp Tryz.func107 rfl trivial ?_ rfl
 simp only [Tryz.ntmps107, List.size_toArray, List.length_cons, List.length_nil, Nat.reduceAdd, Nat.reduceSub, Array.replicate_succ, Array.replicate_zero, List.push_toArray, List.append_toArray, List.nil_append, List.cons_append]
 gi_wp2_with fail
 have HJ := Lib.hid hJ0; clear hJ0
 have HL := Lib.hid hl; clear hl
 have HA := Lib.hid ha; clear ha
 have HY := Lib.hid hY; clear hY
 have HJA := Lib.hid hJ; clear hJ
 gi_region_with (first
  | (refine ⟨trivial, wide_depth, ?_⟩; gi_at_call 61; refine (callsIn_wide.2 (CloneN_c a c lst _ (HL.out.ext (by (repeat' (first | (with_reducible assumption) | (with_reducible exact Ext.refl _) | (with_reducible refine Ext.alloc ?_ _) | (with_reducible refine Ext.drew ?_) | (with_reducible refine Ext.drewN ?_ _) | (with_reducible refine Ext.setCell ?_ ?_ _) | (with_reducible refine Ext.trans ?_ (by assumption)) | go_size)))) hk)).mono ?_; rintro e w1 ⟨a', k', rfl, hl1, hoff, hb⟩; have h2' := Ext.cell (show Ext W w1 by (repeat' (first | (with_reducible assumption) | (with_reducible exact Ext.refl _) | (with_reducible refine Ext.alloc ?_ _) | (with_reducible refine Ext.drew ?_) | (with_reducible refine Ext.drewN ?_ _) | (with_reducible refine Ext.setCell ?_ ?_ _) | (with_reducible refine Ext.trans ?_ (by assumption)) | go_size))) h2; obtain ⟨fn, tmps, assign, body, hyy, hRd⟩ := HY.out pre ⟨a', k', lst⟩ w1 (d - 1) (HJA.out _ _ _ none HJ.out (Ext.grownNone (show Ext W w1 by (repeat' (first | (with_reducible assumption) | (with_reducible exact Ext.refl _) | (with_reducible refine Ext.alloc ?_ _) | (with_reducible refine Ext.drew ?_) | (with_reducible refine Ext.drewN ?_ _) | (with_reducible refine Ext.setCell ?_ ?_ _) | (with_reducible refine Ext.trans ?_ (by assumption)) | go_size)))) (fun r e => by cases e)) ⟨hl1, hk, HA.out, hoff⟩; dsimp only [encL] at hyy; have hE1 := Lib.hid (show Ext W w1 by (repeat' (first | (with_reducible assumption) | (with_reducible exact Ext.refl _) | (with_reducible refine Ext.alloc ?_ _) | (with_reducible refine Ext.drew ?_) | (with_reducible refine Ext.drewN ?_ _) | (with_reducible refine Ext.setCell ?_ ?_ _) | (with_reducible refine Ext.trans ?_ (by assumption)) | go_size))))
  | (refine ⟨wide_depth, hRd.mono ?_⟩; rintro e W3 h3; obtain ⟨r, rfl, H3⟩ := two_ends h3; clear h3))
 all_goals
  gi_wp2
  refine bodyPost_ret (v := .bool r) (by simp [results, Tryz.results107, go_sem]) rfl ?_
  rcases H3.out with ⟨rfl, q1, q2⟩ | ⟨rfl, q1, q2⟩
  · exact .inl ⟨rfl, [⟨a', k', lst⟩], rfl, q1, (KeepC.of_ext hE1.out).trans q2⟩
  · exact .inr ⟨rfl, [⟨a', k', lst⟩], List.prefix_refl _, q1, (KeepC.of_ext hE1.out).trans q2⟩
theorem append_ints (w : World) (ty : TypeId) {ao : Option Addr} {c : Nat} {l : List Nat} (h : ListAt w ao c l) (hl : l.length ≤ 1000) (i b : Nat) (hb : w.cell? ⟨b, 0, none⟩ = some (.int .i64 i)) :
    ∃ v' w', (Builtin.append_ #[24, 24] ty #[.slice ao l.length l.length, .slice (some ⟨b, 0, none⟩) 1 1]).run Tryz.prog w = .ok v' w' ∧ w'.ownsRow w.heap.size 3 1 v' (l.length + 1) (intVals (intsN (l ++ [i]))) ∧ w.grownBy w' none := by
  obtain ⟨i0, hi, hz0, hz1, hz2⟩ := info_parts (P := Tryz.prog) (e := 3) (z := .int .i64 0) (size := 1) (bytes := 8) (by kernel_rfl)
  have hnew : ∀ j u, ([Value.int .i64 i] : List Value)[j]? = some u → w.cell? ((⟨b, 0, none⟩ : Addr).add j) = some u := by
    intro j u hj
    rw [Addr.add_mid, Nat.zero_add]
    match j, hj with
    | 0, hj => simp at hj; subst hj; exact hb
    | _ + 1, hj => simp at hj
  have e : intVals (intsN (l ++ [i])) = intVals (intsN l) ++ [Value.int .i64 i] := by simp [intVals, intsN]
  rw [e]
  rcases h with ⟨rfl, rfl, rfl⟩ | ⟨hne, hcl, b1, o1, rfl, hx⟩
  · obtain ⟨v', w', h1, h2, h3, _⟩ := run_append_own (P := Tryz.prog) w w.heap.size 24 ty 3 i0 (.int .i64 0) 1 8 Tryz.underlying24 hi hz0 hz1 hz2 rfl (by decide) (.slice none 0 0) 0 [] (World.ownsRow_nil w _ _ _) ⟨b, 0, none⟩ 1 1 [.int .i64 i] rfl hnew (by simp [Value.oneCell']) (by unfold maxLen; omega) (by omega) (Nat.le_refl _)
    exact ⟨v', w', h1, h2, h3⟩
  · obtain ⟨v', w', h1, h2, h3⟩ := run_append_arg_grows (P := Tryz.prog) w 24 ty 3 i0 (.int .i64 0) 1 8 Tryz.underlying24 hi hz0 hz1 hz2 rfl (by decide) ⟨b1, o1, none⟩ l.length l.length (intVals (intsN l)) (by simp [intVals, intsN]) (fun j u hj => by
      have hjl : j < (intsN l).length := by rw [← List.length_map (f := Value.int .i64)]; exact (List.getElem?_eq_some_iff.1 hj).1
      have e := intVals_at hjl
      rw [List.getElem?_toArray, hj] at e
      cases e
      rw [Addr.add_mid]; exact hx j (by rwa [intsN_len] at hjl)) ⟨b, 0, none⟩ 1 1 [.int .i64 i] rfl hnew (by omega) (by unfold maxLen; omega) (by omega)
    exact ⟨v', w', h1, h2, h3⟩
theorem list_of_own' {w : World} {base : Nat} {v : Value} {l : List Nat} {i : Nat} (h : w.ownsRow base 3 1 v (l.length + 1) (intVals (intsN (l ++ [i])))) : ∃ g k, v = .slice (some ⟨g, 0, none⟩) (l.length + 1) k ∧ base ≤ g ∧ ListAt w (some ⟨g, 0, none⟩) k (l ++ [i]) := by
 have e : l.length + 1 = (l ++ [i]).length := by simp
 rw [e] at h ⊢
 obtain ⟨g, k, h1, h2, _, h3⟩ := list_of_own h (by simp)
 exact ⟨g, k, h1, h2, h3⟩
theorem asc_snoc {n : Nat} : ∀ {l : List Nat} {s i : Nat}, Globe.asc n s l → (∀ j ∈ l, j < i) → s ≤ i → i < n → Globe.asc n s (l ++ [i])
 | [], _, _, _, _, h, hi => ⟨h, hi, trivial⟩
 | j :: _, _, _, ⟨h1, h2, h3⟩, hj, _, hi => ⟨h1, h2, asc_snoc h3 (fun q hq => hj q (by simp [hq])) (hj j (by simp)) hi⟩
theorem Ext.ofNone {w w' : World} (h : w.grownBy w' none) : Ext w w' := ⟨h.os, h.tape, h.output, h.size, fun k hk => h.block k hk (by simp)⟩
theorem WPost.keep {X : Nat → Prop} {J Jx : List YL → World → Prop} {n m : Nat} {lst : List Nat} {next : Nat} {pre : List YL} {W : World} {e : Ending} {W' : World} (h : WPost X J Jx n m lst next pre W e W') : KeepC X W W' := by
 rcases h with ⟨_, _, _, _, h⟩ | ⟨_, _, _, _, h⟩ <;> exact h
theorem walk_next {X : Nat → Prop} {Kb Yb Nb Wb l n k m : Nat} {J Jx : List YL → World → Prop} {B0 : Nat} {V w3 : World} {W : World} {g cap i next : Nat} {lst : List Nat} {pre xs : List YL} (hBW : B0 ≤ W.heap.size) (hXB : ∀ b, X b → b < B0) (hlen : lst.length + (m + 1) = k)
  (ih : ∀ (a : Option Addr) (c : Nat) (lst : List Nat) (next : Nat) (pre : List YL) (W : World), lst.length + m = k → B0 ≤ W.heap.size → (∀ b off, a = some ⟨b, off, none⟩ → ¬ X b) → ListAt W a c lst → Globe.asc n 0 lst → (∀ i ∈ lst, i < next) → next ≤ n → WB X Kb Yb Nb Wb l n k W → J pre W →
   Calls Tryz.prog 107 #[.slice a lst.length c, .int .i64 next, .pointer (some ⟨Kb, 0, none⟩), .pointer (some ⟨Yb, 0, none⟩), .pointer (some ⟨Nb, 0, none⟩), .pointer (some ⟨Wb, 0, none⟩)] W (WPost X J Jx n m lst next pre W))
  (hl3 : ListAt w3 (some ⟨g, 0, none⟩) cap (lst ++ [i])) (hg : V.heap.size ≤ g) (hWV : W.heap.size ≤ V.heap.size) (ha : Globe.asc n 0 lst) (hlt : ∀ j ∈ lst, j < next) (hi0 : next ≤ i) (hin : i < n) (hB : WB X Kb Yb Nb Wb l n k V) (hE : Ext V w3) (hJA : AbidesFrom B0 J) (hJ : J (pre ++ xs) V) :
  Calls Tryz.prog 107 #[.slice (some ⟨g, 0, none⟩) (lst.length + 1) cap, .int .i64 ((i : Int) + 1), .pointer (some ⟨Kb, 0, none⟩), .pointer (some ⟨Yb, 0, none⟩), .pointer (some ⟨Nb, 0, none⟩), .pointer (some ⟨Wb, 0, none⟩)] w3 (WPost X J Jx n m (lst ++ [i]) (i + 1) (pre ++ xs) w3) := by
 have h := ih (some ⟨g, 0, none⟩) cap (lst ++ [i]) (i + 1) (pre ++ xs) w3 (by rw [List.length_append]; simp; omega) (T hBW (T hWV hE.size)) (fun b off e hx => by cases e; have := hXB _ hx; omega) hl3
  (asc_snoc ha (fun j hj => Nat.lt_of_lt_of_le (hlt j hj) hi0) (Nat.zero_le _) hin) (fun j hj => by
   rcases List.mem_append.1 hj with hj | hj
   · have := hlt j hj; omega
   · simp at hj; omega) (by omega) (hB.keep (KeepC.of_ext hE)) (hJA _ _ _ none hJ (Ext.grownNone hE) (fun r e => by cases e))
 rwa [show (lst ++ [i]).length = lst.length + 1 by simp, show ((i + 1 : Nat) : Int) = (i : Int) + 1 by omega] at h
def WLoop (X : Nat → Prop) (J : List YL → World → Prop) (n m : Nat) (lst : List Nat) (next : Nat) (pre : List YL) (W : World) (p : Value) (wr : World) : Prop :=
 ∃ (i : Nat) (xs : List YL), next ≤ i ∧ i ≤ n ∧ p = .int .i64 i ∧ Hid (xs.map (fun x => x.2.2) ++ ((List.range (n - m)).drop i).flatMap (fun i => Globe.combs n m (lst ++ [i]) (i + 1)) = Globe.combs n (m + 1) lst next) ∧ Hid (J (pre ++ xs) wr) ∧ KeepC X W wr
set_option maxRecDepth 100000 in
set_option maxHeartbeats 4000000 in
theorem walkS {X : Nat → Prop} {Kb Yb Nb Wb l n k m : Nat} {J Jx : List YL → World → Prop} {B0 : Nat} (hJ : AbidesFrom B0 J) (hXB : ∀ b, X b → b < B0)
    (ih : ∀ (a : Option Addr) (c : Nat) (lst : List Nat) (next : Nat) (pre : List YL) (W : World), lst.length + m = k → B0 ≤ W.heap.size → (∀ b off, a = some ⟨b, off, none⟩ → ¬ X b) → ListAt W a c lst → Globe.asc n 0 lst → (∀ i ∈ lst, i < next) → next ≤ n → WB X Kb Yb Nb Wb l n k W → J pre W →
      Calls Tryz.prog 107 #[.slice a lst.length c, .int .i64 next, .pointer (some ⟨Kb, 0, none⟩), .pointer (some ⟨Yb, 0, none⟩), .pointer (some ⟨Nb, 0, none⟩), .pointer (some ⟨Wb, 0, none⟩)] W (WPost X J Jx n m lst next pre W))
    (a : Option Addr) (c : Nat) (lst : List Nat) (next : Nat) (pre : List YL) (W : World) (hlen : lst.length + (m + 1) = k) (hkn : k ≤ n) (hn : n ≤ 1000) (hBW : B0 ≤ W.heap.size) (hax : ∀ b off, a = some ⟨b, off, none⟩ → ¬ X b) (hl : ListAt W a c lst) (ha : Globe.asc n 0 lst) (hlt : ∀ i ∈ lst, i < next) (hnn : next ≤ n) (hb : WB X Kb Yb Nb Wb l n k W) (hJ0 : J pre W) :
    Calls Tryz.prog 107 #[.slice a lst.length c, .int .i64 next, .pointer (some ⟨Kb, 0, none⟩), .pointer (some ⟨Yb, 0, none⟩), .pointer (some ⟨Nb, 0, none⟩), .pointer (some ⟨Wb, 0, none⟩)] W (WPost X J Jx n (m + 1) lst next pre W) := by
  have HB := Lib.hid hb
  obtain ⟨h1, h2, h3, h4, x1, x2, x3, x4⟩ := hb
  have hcl : lst.length ≤ c := by rcases hl with ⟨rfl, _, rfl⟩ | ⟨_, h, _⟩ <;> simp_all
  have hne : ¬ (lst.length : Int) = (k : Int) := by omega
  have i1 : (k : Int) ≤ 1000 := by omega
  have i2 : (n : Int) ≤ 1000 := by omega
  have i3 : (lst.length : Int) ≤ (k : Int) := by omega
  have i4 : (lst.length : Int) ≤ (c : Int) := by omega
  have hlk : lst.length ≤ 1000 := by omega
  have Hlen := Lib.hid hlen; clear hlen
  have Hih := Lib.hid ih; clear ih
  have HJA := Lib.hid hJ; clear hJ
  have HL := Lib.hid hl; clear hl
  have HA := Lib.hid ha; clear ha
  have Hlt := Lib.hid hlt; clear hlt
  have Hax := Lib.hid hax; clear hax
  have HXB := Lib.hid hXB; clear hXB
  go_enter Tryz.func107, Tryz.ntmps107
  go_wp2_with fail
  go_loopw [9] (fun p wr => WLoop X J n m lst next pre W p wr) (fun p _ => n + 1 - (intOf p).toNat)
  case atStart => exact ⟨next, [], Nat.le_refl _, hnn, rfl, by show _ = _; simp [Globe.combs], by show J _ _; simpa using hJ0, KeepC.refl _ _⟩
  case round =>
    clear hJ0 h1 h2 h3 h4
    obtain ⟨i, xs, Bu, Bv, rfl, Hxs, HJ, hk⟩ := hrel
    obtain ⟨h1, h2, h3, h4, -, -, -, -⟩ := HB.out.keep hk
    obtain ⟨V, rfl⟩ : ∃ V, V = wr := ⟨_, rfl⟩
    have l1 := World.block_lt_of_cell? V _ h1
    have l3 := World.block_lt_of_cell? V _ h3
    have l4 := World.block_lt_of_cell? V _ h4
    by_cases hlt : (i : Int) ≤ (n : Int) - ((k : Int) - (lst.length : Int))
    · have Bk : IntKind.i64.wrap ((i : Int) + 1) = (i : Int) + 1 := by rw [IntKind.wrap_i64]; omega
      have Bq := Lib.hid Bk; clear Bk
      have HLV := Lib.hid (show ListAt ((V.alloc (.cells #[.int .i64 i] 3)).drew) a c lst from (HL.out.keep hk Hax.out).ext (Ext.drew (Ext.alloc (Ext.refl _) _)))
      have HBV := Lib.hid (HB.out.keep hk)
      go_wp2_with fail
      -- <<walk
      refine wg_begin [(some 29, [5], []), (some 30, [0], []), (some 31, [0], []), (some 32, [31], [2]), (some 33, [0], []), (some 34, [33], [4]), (some 35, [30, 32, 34], [1, 3, 5]), (some 36, [9], []), (some 37, [36], [7]), (some 38, [35, 37], [6, 8]), (some 39, [9], []), (some 40, [39], [10]), (some 41, [29, 38, 40], [0, 9, 11, 9]), (some 42, [41], [12])] (fun w' => w'.cell? ⟨Wb, 0, none⟩ = some (.func (.func 107) #[] #[.pointer (some ⟨Kb, 0, none⟩), .pointer (some ⟨Yb, 0, none⟩), .pointer (some ⟨Nb, 0, none⟩), .pointer (some ⟨Wb, 0, none⟩)])) (by kernel_rfl) (by kernel_rfl) (by kernel_rfl) (by kernel_rfl) (by intro c d v a w h; cases d <;> first | exact h | (exact nomatch h.1) | (dsimp +zetaDelta only [Exit.then, Exit.inBlock] at h ⊢; exact h)) (h4) (fun ops Q L hL hR hK hHeld => ?_); replace hL := Lib.hid hL; have Be := @evalW_tmp; have Bf := @evalW_const; have Bt := @evalW_func; have Bg := @look_cons; have Bh := @look_nil
      have r5 := wg_read hL.out 5 rfl
      have r0 := wg_read hL.out 0 rfl
      have r9 := wg_read hL.out 9 rfl
      (refine wg_take 0 (v := ?_) hR rfl (by kernel_rfl) (by kernel_rfl) ?_ (by with_reducible assumption) ?_; rotate_left; (focus (intro w hSw; (try dsimp only at hSw); go_simp; (try with_reducible rfl))); (dsimp only [putW]))
      (refine wg_take 1 (v := ?_) hR rfl (by kernel_rfl) (by kernel_rfl) ?_ (by with_reducible assumption) ?_; rotate_left; (focus (intro w hSw; (try dsimp only at hSw); go_simp; (try with_reducible rfl))); (dsimp only [putW]))
      (refine wg_take 2 (v := ?_) hR rfl (by kernel_rfl) (by kernel_rfl) ?_ (by with_reducible assumption) ?_; rotate_left; (focus (intro w hSw; (try dsimp only at hSw); go_simp; (try with_reducible rfl))); (dsimp only [putW]))
      (refine wg_take 3 (v := ?_) hR rfl (by kernel_rfl) (by kernel_rfl) ?_ (by with_reducible assumption) ?_; rotate_left; (focus (intro w hSw; (try dsimp only at hSw); go_simp; (try with_reducible rfl))); (dsimp only [putW]))
      (refine wg_take 4 (v := ?_) hR rfl (by kernel_rfl) (by kernel_rfl) ?_ (by with_reducible assumption) ?_; rotate_left; (focus (intro w hSw; (try dsimp only at hSw); go_simp; (try with_reducible rfl))); (dsimp only [putW]))
      (refine wg_take 5 (v := ?_) hR rfl (by kernel_rfl) (by kernel_rfl) ?_ (by with_reducible assumption) ?_; rotate_left; (focus (intro w hSw; (try dsimp only at hSw); go_simp; (try with_reducible rfl))); (dsimp only [putW]))
      (refine wg_take 6 (v := ?_) hR rfl (by kernel_rfl) (by kernel_rfl) ?_ (by with_reducible assumption) ?_; rotate_left; (focus (intro w hSw; (try dsimp only at hSw); go_simp; (try with_reducible rfl))); (dsimp only [putW]))
      (refine wg_take 7 (v := ?_) hR rfl (by kernel_rfl) (by kernel_rfl) ?_ (by with_reducible assumption) ?_; rotate_left; (focus (intro w hSw; (try dsimp only at hSw); go_simp; (try with_reducible rfl))); (dsimp only [putW]))
      (refine wg_take 10 (v := ?_) hR rfl (by kernel_rfl) (by kernel_rfl) ?_ (by with_reducible assumption) ?_; rotate_left; (focus (intro w hSw; (try dsimp only at hSw); go_simp; (try with_reducible rfl))); (dsimp only [putW]))
      (refine wg_take 11 (v := ?_) hR rfl (by kernel_rfl) (by kernel_rfl) ?_ (by with_reducible assumption) ?_; rotate_left; (focus (intro w hSw; (try dsimp only at hSw); have k0 := Bq.out; go_simp; (try with_reducible rfl))); (dsimp only [putW]))
      (refine wg_step 8 hR rfl (by kernel_rfl) (by kernel_rfl) ?_ (by kernel_rfl); refine wg_eff (v := ?_) (w' := ?_) ?_ ?_ ?_; rotate_left; rotate_left; (focus (go_simp; first | done | (with_reducible rfl) | (refine ⟨?_, ?_⟩ <;> with_reducible rfl))); (focus (exact (Ext.cell (show Ext V _ by (repeat' (first | (with_reducible assumption) | (with_reducible exact Ext.refl _) | (with_reducible refine Ext.alloc ?_ _) | (with_reducible refine Ext.drew ?_) | (with_reducible refine Ext.drewN ?_ _) | (with_reducible refine Ext.setCell ?_ ?_ _) | (with_reducible refine Ext.trans ?_ (by assumption)) | go_size))) h4))); intro hHeld; (dsimp only [putW]))
      (refine wg_step 9 hR rfl (by kernel_rfl) (by kernel_rfl) ?_ (by kernel_rfl); (obtain ⟨v', w3, hrun, hown, Bi⟩ := append_ints ((V.alloc (.cells #[.int .i64 i] 3)).drew) 24 HLV.out hlk i V.heap.size (by simp [go_sem]); obtain ⟨g, cap, rfl, hgb, Bj⟩ := list_of_own' hown; have B7 := Lib.hid (Ext.trans (Ext.drew (Ext.alloc (Ext.refl V) _)) (Ext.ofNone Bi)); have Bw := B7.out.size; have Ba : V.heap.size ≤ g := (by simp at hgb; omega); have Hc := Lib.hid (walk_next hBW HXB.out Hlen.out Hih.out Bj Ba hk.size HA.out Hlt.out Bu (by omega) HBV.out B7.out HJA.out HJ.out); refine wg_eff (v := .slice (some ⟨g, 0, none⟩) (lst.length + 1) cap) (w' := w3) ?_ ?_ ?_; (focus (simp [execOp, resolve, invoke, builtin, Be, Bg, hrun, Result.andThen])); (focus (exact B7.out.cell h4)); intro hHeld; (dsimp only [putW])))
      (refine wg_step 12 hR rfl (by kernel_rfl) (by kernel_rfl) ?_ (by kernel_rfl); refine wg_call (f := 107) (args := ?_) ?_ ?_; rotate_left; (focus (go_simp; first | done | (with_reducible rfl) | (refine ⟨?_, ?_⟩ <;> with_reducible rfl))); (go_at_call 107; refine Hc.out.mono ?_; rintro e w5 h5; have Bm := Lib.hid h5.keep; obtain ⟨r, rfl, H5⟩ := two_ends h5; have Br := (HBV.out.keep ((KeepC.of_ext B7.out).trans Bm.out)).2.2.2.1); refine ⟨_, rfl, Br, fun hHeld => ?_⟩; (dsimp only [putW]))
      (refine wg_take 13 (v := ?_) hR rfl (by kernel_rfl) (by kernel_rfl) ?_ (by with_reducible assumption) ?_; rotate_left; (focus (intro w hSw; (try dsimp only at hSw); go_simp; (try with_reducible rfl))); (dsimp only [putW]))
      refine wg_fin hR hK [(29, 13), (0, 12), (0, 11), (0, 10), (0, 9), (0, 8), (0, 7), (0, 6), (0, 3), (0, 2), (0, 5), (0, 4), (0, 1), (0, 0)] (by kernel_rfl) (by kernel_rfl) (by dsimp only [mg, gsOf, valAt]) ?_; clear Be Bf Bt Bg Bh hR hK hL
      clear r5; clear r0; clear r9
      -- >>
      have hin : i < n - m := by have := Hlen.out; omega
      clear hrun hown Bi Bj hgb Ba h5
      have hsplit := Hxs.out
      rw [Globe.range_drop hin, List.flatMap_cons] at hsplit
      have Hs := Lib.hid hsplit; clear hsplit Hxs
      have hkW := (KeepC.of_ext (X := X) B7.out)
      cases r
      · go_wp2_with fail
        go_ret
        rcases H5.out with ⟨q, -⟩ | ⟨-, q, hq, hJx, Bb⟩
        · cases q
        · refine .inr ⟨rfl, xs ++ q, ?_, by rw [← List.append_assoc]; exact hJx, hk.trans (hkW.trans Bb)⟩
          rw [← Hs.out, List.map_append]
          obtain ⟨rr, hr⟩ := hq
          exact ⟨rr ++ ((List.range (n - m)).drop (i + 1)).flatMap (fun i => Globe.combs n m (lst ++ [i]) (i + 1)), by rw [← hr]; simp only [List.append_assoc]⟩
      · go_wp2_with fail
        obtain ⟨ys, hys, Bc, Bb⟩ : ∃ ys : List YL, ys.map (fun x => x.2.2) = Globe.combs n m (lst ++ [i]) (i + 1) ∧ J (pre ++ xs ++ ys) w5 ∧ KeepC X w3 w5 := by
          rcases H5.out with ⟨-, ys, q1, q2, q3⟩ | ⟨q, -⟩
          · exact ⟨ys, q1, q2, q3⟩
          · cases q
        have Hys := Lib.hid hys; clear hys
        have Bp := Lib.hid Bc; clear Bc
        go_roundw
        case rel => exact ⟨i + 1, xs ++ ys, by omega, by omega, by go_num, by show _ = _; rw [List.map_append, Hys.out, List.append_assoc]; exact Hs.out, by show J _ _; rw [← List.append_assoc]; exact Bp.out, hk.trans (hkW.trans Bb)⟩
        case measure => simp [intOf]; omega
    · go_wp2_with fail
      go_ret
      have hin : n - m ≤ i := by have := Hlen.out; omega
      have hall := Hxs.out
      rw [Globe.range_drop_ge hin, List.flatMap_nil, List.append_nil] at hall
      exact .inl ⟨rfl, xs, hall, HJ.out, hk⟩
end Go.Proofs.YtajdohcgjgknmaaGreatDoor

namespace Go.Proofs.YtajdohcgjgknmaaGreatDoor
open Go.RowKit
def badS (ss : List (List Int × List Int)) : Int := match ss.findIdx? (fun s => !Globe.stripOk s) with | some i => (i : Int) | none => -1
theorem badS_all {ss : List (List Int × List Int)} (h : ∀ (i : Nat) s, ss[i]? = some s → Globe.stripOk s = true) : badS ss = -1 := by
 unfold badS
 rw [List.findIdx?_eq_none_iff.2]
 intro s hs
 obtain ⟨i, hi⟩ := List.getElem?_of_mem hs
 simp [h i s hi]
theorem badS_first {ss : List (List Int × List Int)} {k : Nat} {s : List Int × List Int} (hk : ss[k]? = some s) (hs : Globe.stripOk s = false) (h : ∀ i, i < k → ∀ s, ss[i]? = some s → Globe.stripOk s = true) : badS ss = (k : Int) := by
 unfold badS
 have hl : k < ss.length := by
  rcases Nat.lt_or_ge k ss.length with h1 | h1
  · exact h1
  · rw [List.getElem?_eq_none h1] at hk; cases hk
 rw [List.getElem?_eq_getElem hl] at hk
 cases hk
 rw [(List.findIdx?_eq_some_iff_getElem (xs := ss) (p := fun s => !Globe.stripOk s) (i := k)).2 ⟨hl, by simp [hs], fun j hj => by simp [h j hj _ (List.getElem?_eq_getElem (by omega))]⟩]
theorem badS_no {ss : List (List Int × List Int)} (h : ss.all Globe.stripOk = false) : 0 ≤ badS ss := by
 unfold badS
 cases hq : ss.findIdx? (fun s => !Globe.stripOk s) with
 | some i => simp
 | none =>
  rw [List.findIdx?_eq_none_iff] at hq
  rw [List.all_eq_false] at h
  obtain ⟨s, hs, h⟩ := h
  have := hq s hs
  simp at this; exact absurd this h
theorem badS_yes {ss : List (List Int × List Int)} (h : ss.all Globe.stripOk = true) : badS ss = -1 :=
 badS_all fun _ s hs => List.all_eq_true.1 h s (List.mem_of_getElem? hs)
set_option maxHeartbeats 1000000 in
theorem IndexFuncS_c {w0 : World} {a : Option Addr} {n : Nat} {ss : List (List Int × List Int)} (c : Nat) (w : World) (h : StripsAt w0 a n ss) (hE0 : Ext w0 w) :
    Calls Tryz.prog 132 #[.slice a n c, .func (.func 102) #[] #[]] w fun e w' => e = .returned (.int .i64 (badS ss)) ∧ Ext w w' := by
  have H := Lib.hid (h.ext hE0)
  clear h hE0
  have hn := H.out.2.1
  go_enter Tryz.func132, Tryz.ntmps132
  go_wp2_with fail
  go_loopw [5, 8] (fun _ i wr => ∃ k : Nat, k ≤ n ∧ i = .int .i64 k ∧ Hid (∀ j, j < k → ∀ s, ss[j]? = some s → Globe.stripOk s = true) ∧ Ext w wr) (fun _ i _ => n - (intOf i).toNat)
  case atStart => exact ⟨0, by omega, rfl, fun j hj => by omega, Ext.refl _⟩
  case round =>
    obtain ⟨k, hk, rfl, Hp, hE⟩ := hrel
    by_cases hlt : k < n
    · obtain ⟨b, off, s, rfl, hs, a1, n1, c1, v1, a2, n2, c2, v2, h1, g1, h2, g2⟩ := H.out.at hlt
      have hsp : (s.1, s.2) = s := rfl
      replace h1 := hE.cell h1; replace h2 := hE.cell h2
      have k0 : (0 : Int) ≤ (k : Int) := by omega
      have k1 : (k : Int) < (n : Int) := by omega
      have Hs := Lib.hid hs; clear hs
      cases hq : Globe.stripOk s
      all_goals
        have Hq := Lib.hid hq; clear hq
        go_wp2_with (go_at_call 102; refine (ValidS1_t _ _ _ g1 (hE.trans (by (repeat' (first | (with_reducible assumption) | (with_reducible exact Ext.refl _) | (with_reducible refine Ext.alloc ?_ _) | (with_reducible refine Ext.drew ?_) | (with_reducible refine Ext.drewN ?_ _) | (with_reducible refine Ext.setCell ?_ ?_ _) | (with_reducible refine Ext.trans ?_ (by assumption)) | go_size)))) g2 (hE.trans (by (repeat' (first | (with_reducible assumption) | (with_reducible exact Ext.refl _) | (with_reducible refine Ext.alloc ?_ _) | (with_reducible refine Ext.drew ?_) | (with_reducible refine Ext.drewN ?_ _) | (with_reducible refine Ext.setCell ?_ ?_ _) | (with_reducible refine Ext.trans ?_ (by assumption)) | go_size))))).mono ?_; rintro e w1 ⟨rfl, hb⟩; rw [hsp, Hq.out])
      · go_ret
        exact ⟨ret_int (badS_first Hs.out Hq.out Hp.out).symm, hE.trans hb⟩
      · go_roundw
        case rel => exact ⟨k + 1, by omega, by go_num, fun j hj s' hs' => by
          rcases Nat.lt_or_ge j k with h | h
          · exact Hp.out j h s' hs'
          · rw [show j = k by omega, Hs.out] at hs'; cases hs'; exact Hq.out, hE.trans hb⟩
        case measure => simp [intOf]; omega
    · obtain rfl : k = n := by omega
      go_wp2_with fail
      go_ret
      exact ⟨ret_int (badS_all fun i s hs => Hp.out i (by
        rw [← H.out.1]
        rcases Nat.lt_or_ge i ss.length with h | h
        · exact h
        · rw [List.getElem?_eq_none h] at hs; cases hs) s hs).symm, hE⟩
theorem ContainsFuncS_c {w0 : World} {a : Option Addr} {n : Nat} {ss : List (List Int × List Int)} (c : Nat) (w : World) (h : StripsAt w0 a n ss) (hE0 : Ext w0 w) :
    Calls Tryz.prog 103 #[.slice a n c, .func (.func 102) #[] #[]] w fun e w' => e = .returned (.bool (!ss.all Globe.stripOk)) ∧ Ext w w' := by
  have H := Lib.hid h; clear h
  cases hq : ss.all Globe.stripOk
  · have h1 := badS_no hq
    go_enter Tryz.func103, Tryz.ntmps103
    go_wp2_with (go_at_call 132; refine (IndexFuncS_c _ _ H.out hE0).mono ?_; rintro e w1 ⟨rfl, hb⟩)
    go_ret
    exact ⟨rfl, hb⟩
  · have h1 := badS_yes hq
    go_enter Tryz.func103, Tryz.ntmps103
    go_wp2_with (go_at_call 132; refine (IndexFuncS_c _ _ H.out hE0).mono ?_; rintro e w1 ⟨rfl, hb⟩)
    go_ret
    exact ⟨rfl, hb⟩
theorem ValidS_c {w0 : World} {a : Option Addr} {n : Nat} {ss : List (List Int × List Int)} (c : Nat) (w : World) (h : StripsAt w0 a n ss) (hE0 : Ext w0 w) :
    Calls Tryz.prog 51 #[.slice a n c] w fun e w' => e = .returned (.bool (Globe.stripsOk ss)) ∧ Ext w w' := by
  have hn := h.1
  have hm := h.2.1
  have H := Lib.hid h; clear h
  by_cases h24 : n ≤ 24
  · have hq : Globe.stripsOk ss = ss.all Globe.stripOk := by simp [Globe.stripsOk, hn, h24]
    have Hq := Lib.hid hq; clear hq
    have hd : (n : Int) ≤ 24 := by omega
    clear hn
    go_enter Tryz.func51, Tryz.ntmps51
    go_wp2_with (go_at_call 103; refine (ContainsFuncS_c _ _ H.out hE0).mono ?_; rintro e w1 ⟨rfl, hb⟩)
    go_ret
    exact ⟨ret_bool (by rw [Hq.out]), hb⟩
  · have hq : Globe.stripsOk ss = false := by simp [Globe.stripsOk, hn, h24]
    have Hq := Lib.hid hq; clear hq
    have hd : ¬ (n : Int) ≤ 24 := by omega
    clear hn
    go_enter Tryz.func51, Tryz.ntmps51
    go_wp2_with fail
    go_ret
    exact ⟨ret_bool (by rw [Hq.out]), Ext.refl _⟩
theorem ValidS_r {w0 : World} {a : Option Addr} {n : Nat} {ss : List (List Int × List Int)} {r : Bool} (c : Nat) (w : World) (h : StripsAt w0 a n ss) (hE0 : Ext w0 w) (hr : Globe.stripsOk ss = r) :
  Calls Tryz.prog 51 #[.slice a n c] w fun e w' => e = .returned (.bool r) ∧ Ext w w' := hr ▸ ValidS_c c w h hE0
theorem BoxAt.set {w : World} {b o : Nat} {u : Value} (h : BoxAt w b o u) (v : Value) : BoxAt (w.setCell ⟨b, o, none⟩ v) b o v := by
 obtain ⟨h1, h2⟩ := h
 exact ⟨by simp [go_sem, h1], by simp [go_sem, h2]⟩
theorem okS_at {ss : List (List Int × List Int)} (hv : Globe.stripsOk ss = true) {i : Nat} {s : List Int × List Int} (hs : ss[i]? = some s) : Globe.validL s.1 = true ∧ Globe.validL s.2 = true ∧ Globe.containsB s.2 s.1 = true :=
 Globe.stripOk_v ((Globe.stripsOk_t.1 hv).2 s (List.mem_of_getElem? hs))
theorem StripAt.v {w : World} {b i : Nat} {s : List Int × List Int} (h : StripAt w b i s) (h1 : Globe.validL s.1 = true) (h2 : Globe.validL s.2 = true) :
  ∃ B1 o1 c1 B2 o2 c2, w.cell? ⟨b, i, none⟩ = some (.slice (some ⟨B1, o1, none⟩) 24 c1) ∧ w.cell? ⟨b, i + 1, none⟩ = some (.slice (some ⟨B2, o2, none⟩) 24 c2) ∧ VA w B1 o1 s.1 ∧ VA w B2 o2 s.2 := by
 obtain ⟨a1, n1, c1, v1, a2, n2, c2, v2, q1, g1, q2, g2⟩ := h
 obtain rfl : v1 = true := g1.2.2.2.symm.trans h1
 obtain rfl : v2 = true := g2.2.2.2.symm.trans h2
 obtain ⟨B1, o1, rfl, rfl, r1⟩ := g1.va
 obtain ⟨B2, o2, rfl, rfl, r2⟩ := g2.va
 exact ⟨B1, o1, c1, B2, o2, c2, q1, q2, r1, r2⟩
theorem take_snoc' {α : Type} {l : List α} {i : Nat} {x : α} (h : l[i]? = some x) : l.take (i + 1) = l.take i ++ [x] := by
 rw [List.take_add_one, h]; rfl
set_option maxHeartbeats 1000000 in
theorem Unc1_v {w1 w2 w3 : World} {b o B1 o1 B2 o2 : Nat} (k c1 c2 : Nat) {l l1 l2 : List Int} (w : World) (h : VA w1 b o l) (e1 : Ext w1 w) (h1 : VA w2 B1 o1 l1) (e2 : Ext w2 w) (h2 : VA w3 B2 o2 l2) (e3 : Ext w3 w) :
  Calls Tryz.prog 54 #[.agg #[.slice (some ⟨b, o, none⟩) 24 k], .agg #[.slice (some ⟨B1, o1, none⟩) 24 c1, .slice (some ⟨B2, o2, none⟩) 24 c2]] w (RetF w (Globe.lessL l l2)) := by
 have H := Lib.hid (h.ext e1)
 have H1 := Lib.hid (h1.ext e2)
 have H2 := Lib.hid (h2.ext e3)
 clear h h1 h2 e1 e2 e3
 go_enter Tryz.func54, Tryz.ntmps54
 go_wp2_with (go_at_call 55; refine (less_v _ _ _ H.out (by (repeat' (first | (with_reducible assumption) | (with_reducible exact Ext.refl _) | (with_reducible refine Ext.alloc ?_ _) | (with_reducible refine Ext.drew ?_) | (with_reducible refine Ext.drewN ?_ _) | (with_reducible refine Ext.setCell ?_ ?_ _) | (with_reducible refine Ext.trans ?_ (by assumption)) | go_size))) H2.out (by (repeat' (first | (with_reducible assumption) | (with_reducible exact Ext.refl _) | (with_reducible refine Ext.alloc ?_ _) | (with_reducible refine Ext.drew ?_) | (with_reducible refine Ext.drewN ?_ _) | (with_reducible refine Ext.setCell ?_ ?_ _) | (with_reducible refine Ext.trans ?_ (by assumption)) | go_size)))).mono ?_; rintro e w1 ⟨B, k, rfl, hB, hv, hb⟩; have hc := hb.cellE; have hf := hb.frozenE; have hz := hb.size; have ha := alloc_keeps w1; (try simp only [World.size_alloc] at hc hf hz); (try simp only [World.size_setCell] at hc hf hz); (try simp only [World.size_drew] at hc hf hz))
 have hB2 : w.heap.size + 1 + 1 < B := by simp at hB; omega
 refine bodyPost_ret (v := .agg #[.slice (some ⟨B, 0, none⟩) 24 k]) (by simp [results, Tryz.results54, go_sem, hc]) rfl ⟨B, k, rfl, by omega, ?_, by (repeat' (first | (with_reducible assumption) | (with_reducible exact Ext.refl _) | (with_reducible refine Ext.alloc ?_ _) | (with_reducible refine Ext.drew ?_) | (with_reducible refine Ext.drewN ?_ _) | (with_reducible refine Ext.setCell ?_ ?_ _) | (with_reducible refine Ext.trans ?_ (by assumption)) | go_size))⟩
 refine VA.other (hv.ext (by (repeat' (first | (with_reducible assumption) | (with_reducible exact Ext.refl _) | (with_reducible refine Ext.alloc ?_ _) | (with_reducible refine Ext.drew ?_) | (with_reducible refine Ext.drewN ?_ _) | (with_reducible refine Ext.setCell ?_ ?_ _) | (with_reducible refine Ext.trans ?_ (by assumption)) | go_size)))) (by show w.heap.size + 1 + 1 ≠ B; omega) _
set_option maxHeartbeats 2000000 in
theorem foldU1_v {w1 w2 : World} {a : Option Addr} {n : Nat} {ss : List (List Int × List Int)} {b o : Nat} (c k : Nat) {l : List Int} (w : World) (h : StripsAt w1 a n ss) (e1 : Ext w1 w) (hok : Globe.stripsOk ss = true) (hl : VA w2 b o l) (e2 : Ext w2 w) :
    Calls Tryz.prog 52 #[.slice a n c, .agg #[.slice (some ⟨b, o, none⟩) 24 k], .func (.func 54) #[] #[]] w (RetO w b (Globe.leftL l (ss.map fun s => s.2))) := by
  have H := Lib.hid (h.ext e1)
  have HL := Lib.hid (hl.ext e2)
  have hbl := HL.out.lt
  have hn := H.out.2.1
  have B7 := H.out.1
  have Hok := Lib.hid hok
  clear h hl e1 e2 hok
  have Ba := Lib.hid B7; clear B7
  go_enter Tryz.func52, Tryz.ntmps52
  go_wp2_with fail
  go_loopw [11] (fun p wr => ∃ i : Nat, i ≤ n ∧ p = .int .i64 i ∧ Ext w wr ∧ BoxAt wr (w.heap.size + 1) 0 (.slice none 0 0) ∧ ∃ B o' k', BoxAt wr w.heap.size 0 (.slice (some ⟨B, o', none⟩) 24 k') ∧ VA wr B o' (Globe.leftL l ((ss.map fun s => s.2).take i)) ∧ B ≠ w.heap.size ∧ B ≠ w.heap.size + 1 ∧ (B = b ∨ w.heap.size ≤ B)) (fun p _ => n - (intOf p).toNat)
  case atStart => exact ⟨0, by omega, rfl, by (repeat' (first | (with_reducible assumption) | (with_reducible exact Ext.refl _) | (with_reducible refine Ext.alloc ?_ _) | (with_reducible refine Ext.drew ?_) | (with_reducible refine Ext.drewN ?_ _) | (with_reducible refine Ext.setCell ?_ ?_ _) | (with_reducible refine Ext.trans ?_ (by assumption)) | go_size)), ⟨by simp [go_sem], by simp [go_sem]⟩, b, o, k, ⟨by simp [go_sem], by simp [go_sem]⟩, HL.out.ext (by (repeat' (first | (with_reducible assumption) | (with_reducible exact Ext.refl _) | (with_reducible refine Ext.alloc ?_ _) | (with_reducible refine Ext.drew ?_) | (with_reducible refine Ext.drewN ?_ _) | (with_reducible refine Ext.setCell ?_ ?_ _) | (with_reducible refine Ext.trans ?_ (by assumption)) | go_size))), by omega, by omega, .inl rfl⟩
  case round =>
    obtain ⟨i, hi, rfl, hE, hR, B, o', k', hA, hv, Bc, Be, Bb⟩ := hrel
    obtain ⟨cA, fA⟩ := hA
    obtain ⟨cR, fR⟩ := hR
    have lA := World.block_lt_of_cell? wr _ cA
    have lR := World.block_lt_of_cell? wr _ cR
    by_cases hlt : i < n
    · obtain ⟨b3, off, s, rfl, hs, hst⟩ := H.out.at hlt
      obtain ⟨q1, q2, q3⟩ := okS_at Hok.out hs
      obtain ⟨B1, o1, c1, B2, o2, c2, d1, d2, g1, g2⟩ := hst.v q1 q2
      replace d1 := hE.cell d1; replace d2 := hE.cell d2
      have Bf := World.block_lt_of_cell? wr _ d1
      have i0 : (0 : Int) ≤ (i : Int) := by omega
      have i1 : (i : Int) < (n : Int) := by omega
      have hsn : Globe.leftL l ((ss.map fun s => s.2).take (i + 1)) = Globe.lessL (Globe.leftL l ((ss.map fun s => s.2).take i)) s.2 := by
        rw [take_snoc' (x := s.2) (by rw [List.getElem?_map, hs]; rfl), Globe.left_snoc]
      have Hsn := Lib.hid hsn; clear hsn hs hst q1 q2 q3
      go_wp2_with (go_at_call 54; refine (Unc1_v _ _ _ _ hv (by (repeat' (first | (with_reducible assumption) | (with_reducible exact Ext.refl _) | (with_reducible refine Ext.alloc ?_ _) | (with_reducible refine Ext.drew ?_) | (with_reducible refine Ext.drewN ?_ _) | (with_reducible refine Ext.setCell ?_ ?_ _) | (with_reducible refine Ext.trans ?_ (by assumption)) | go_size))) (g1.ext hE) (by (repeat' (first | (with_reducible assumption) | (with_reducible exact Ext.refl _) | (with_reducible refine Ext.alloc ?_ _) | (with_reducible refine Ext.drew ?_) | (with_reducible refine Ext.drewN ?_ _) | (with_reducible refine Ext.setCell ?_ ?_ _) | (with_reducible refine Ext.trans ?_ (by assumption)) | go_size))) (g2.ext hE) (by (repeat' (first | (with_reducible assumption) | (with_reducible exact Ext.refl _) | (with_reducible refine Ext.alloc ?_ _) | (with_reducible refine Ext.drew ?_) | (with_reducible refine Ext.drewN ?_ _) | (with_reducible refine Ext.setCell ?_ ?_ _) | (with_reducible refine Ext.trans ?_ (by assumption)) | go_size)))).mono ?_; rintro e w1 ⟨B', k3, rfl, hB', hv', hb⟩; have hc := hb.cellE; have hf := hb.frozenE; have hz := hb.size; have ha := alloc_keeps w1; (try simp only [World.size_alloc] at hc hf hz); (try simp only [World.size_setCell] at hc hf hz); (try simp only [World.size_drew] at hc hf hz))
      go_roundw
      case rel => exact ⟨i + 1, by omega, by go_num, by (repeat' (first | (with_reducible assumption) | (with_reducible exact Ext.refl _) | (with_reducible refine Ext.alloc ?_ _) | (with_reducible refine Ext.drew ?_) | (with_reducible refine Ext.drewN ?_ _) | (with_reducible refine Ext.setCell ?_ ?_ _) | (with_reducible refine Ext.trans ?_ (by assumption)) | go_size)), BoxAt.other (BoxAt.ext (by (repeat' (first | (with_reducible assumption) | (with_reducible exact Ext.refl _) | (with_reducible refine Ext.alloc ?_ _) | (with_reducible refine Ext.drew ?_) | (with_reducible refine Ext.drewN ?_ _) | (with_reducible refine Ext.setCell ?_ ?_ _) | (with_reducible refine Ext.trans ?_ (by assumption)) | go_size))) ⟨cR, fR⟩) (by show w.heap.size ≠ w.heap.size + 1; omega) _, B', 0, k3, BoxAt.set (BoxAt.ext (by (repeat' (first | (with_reducible assumption) | (with_reducible exact Ext.refl _) | (with_reducible refine Ext.alloc ?_ _) | (with_reducible refine Ext.drew ?_) | (with_reducible refine Ext.drewN ?_ _) | (with_reducible refine Ext.setCell ?_ ?_ _) | (with_reducible refine Ext.trans ?_ (by assumption)) | go_size))) ⟨cA, fA⟩) _, by rw [Hsn.out]; exact VA.other (hv'.ext (by (repeat' (first | (with_reducible assumption) | (with_reducible exact Ext.refl _) | (with_reducible refine Ext.alloc ?_ _) | (with_reducible refine Ext.drew ?_) | (with_reducible refine Ext.drewN ?_ _) | (with_reducible refine Ext.setCell ?_ ?_ _) | (with_reducible refine Ext.trans ?_ (by assumption)) | go_size)))) (by show w.heap.size ≠ B'; (try simp at hB'); omega) _, by (try simp at hB'); omega, by (try simp at hB'); omega, .inr (by (try simp at hB'); omega)⟩
      case measure => simp [intOf]; omega
    · obtain rfl : i = n := by omega
      go_wp2_with fail
      refine bodyPost_ret (v := .agg #[.slice (some ⟨B, o', none⟩) 24 k']) (by simp [results, Tryz.results52, go_sem, cR]) rfl ⟨B, o', k', rfl, ?_, Bb, by (repeat' (first | (with_reducible assumption) | (with_reducible exact Ext.refl _) | (with_reducible refine Ext.alloc ?_ _) | (with_reducible refine Ext.drew ?_) | (with_reducible refine Ext.drewN ?_ _) | (with_reducible refine Ext.setCell ?_ ?_ _) | (with_reducible refine Ext.trans ?_ (by assumption)) | go_size))⟩
      rw [List.take_of_length_le (by rw [List.length_map, Ba.out]; exact Nat.le_refl _)] at hv
      exact VA.other hv (by show w.heap.size + 1 ≠ B; omega) _
set_option maxHeartbeats 1000000 in
theorem Unc2_v {w1 w2 w3 : World} {b o B1 o1 B2 o2 : Nat} (k c1 c2 : Nat) {l l1 l2 : List Int} (w : World) (h : VA w1 b o l) (e1 : Ext w1 w) (h1 : VA w2 B1 o1 l1) (e2 : Ext w2 w) (h2 : VA w3 B2 o2 l2) (e3 : Ext w3 w) :
  Calls Tryz.prog 56 #[.agg #[.slice (some ⟨b, o, none⟩) 24 k], .agg #[.slice (some ⟨B1, o1, none⟩) 24 c1, .slice (some ⟨B2, o2, none⟩) 24 c2]] w (RetF w (Globe.lessL l l1)) := by
 have H := Lib.hid (h.ext e1)
 have H1 := Lib.hid (h1.ext e2)
 have H2 := Lib.hid (h2.ext e3)
 clear h h1 h2 e1 e2 e3
 go_enter Tryz.func56, Tryz.ntmps56
 go_wp2_with (go_at_call 55; refine (less_v _ _ _ H.out (by (repeat' (first | (with_reducible assumption) | (with_reducible exact Ext.refl _) | (with_reducible refine Ext.alloc ?_ _) | (with_reducible refine Ext.drew ?_) | (with_reducible refine Ext.drewN ?_ _) | (with_reducible refine Ext.setCell ?_ ?_ _) | (with_reducible refine Ext.trans ?_ (by assumption)) | go_size))) H1.out (by (repeat' (first | (with_reducible assumption) | (with_reducible exact Ext.refl _) | (with_reducible refine Ext.alloc ?_ _) | (with_reducible refine Ext.drew ?_) | (with_reducible refine Ext.drewN ?_ _) | (with_reducible refine Ext.setCell ?_ ?_ _) | (with_reducible refine Ext.trans ?_ (by assumption)) | go_size)))).mono ?_; rintro e w1 ⟨B, k, rfl, hB, hv, hb⟩; have hc := hb.cellE; have hf := hb.frozenE; have hz := hb.size; have ha := alloc_keeps w1; (try simp only [World.size_alloc] at hc hf hz); (try simp only [World.size_setCell] at hc hf hz); (try simp only [World.size_drew] at hc hf hz))
 have hB2 : w.heap.size + 1 + 1 < B := by simp at hB; omega
 refine bodyPost_ret (v := .agg #[.slice (some ⟨B, 0, none⟩) 24 k]) (by simp [results, Tryz.results56, go_sem, hc]) rfl ⟨B, k, rfl, by omega, ?_, by (repeat' (first | (with_reducible assumption) | (with_reducible exact Ext.refl _) | (with_reducible refine Ext.alloc ?_ _) | (with_reducible refine Ext.drew ?_) | (with_reducible refine Ext.drewN ?_ _) | (with_reducible refine Ext.setCell ?_ ?_ _) | (with_reducible refine Ext.trans ?_ (by assumption)) | go_size))⟩
 refine VA.other (hv.ext (by (repeat' (first | (with_reducible assumption) | (with_reducible exact Ext.refl _) | (with_reducible refine Ext.alloc ?_ _) | (with_reducible refine Ext.drew ?_) | (with_reducible refine Ext.drewN ?_ _) | (with_reducible refine Ext.setCell ?_ ?_ _) | (with_reducible refine Ext.trans ?_ (by assumption)) | go_size)))) (by show w.heap.size + 1 + 1 ≠ B; omega) _
set_option maxHeartbeats 2000000 in
theorem foldU2_v {w1 w2 : World} {a : Option Addr} {n : Nat} {ss : List (List Int × List Int)} {b o : Nat} (c k : Nat) {l : List Int} (w : World) (h : StripsAt w1 a n ss) (e1 : Ext w1 w) (hok : Globe.stripsOk ss = true) (hl : VA w2 b o l) (e2 : Ext w2 w) :
    Calls Tryz.prog 52 #[.slice a n c, .agg #[.slice (some ⟨b, o, none⟩) 24 k], .func (.func 56) #[] #[]] w (RetO w b (Globe.leftL l (ss.map fun s => s.1))) := by
  have H := Lib.hid (h.ext e1)
  have HL := Lib.hid (hl.ext e2)
  have hbl := HL.out.lt
  have hn := H.out.2.1
  have B7 := H.out.1
  have Hok := Lib.hid hok
  clear h hl e1 e2 hok
  have Ba := Lib.hid B7; clear B7
  go_enter Tryz.func52, Tryz.ntmps52
  go_wp2_with fail
  go_loopw [11] (fun p wr => ∃ i : Nat, i ≤ n ∧ p = .int .i64 i ∧ Ext w wr ∧ BoxAt wr (w.heap.size + 1) 0 (.slice none 0 0) ∧ ∃ B o' k', BoxAt wr w.heap.size 0 (.slice (some ⟨B, o', none⟩) 24 k') ∧ VA wr B o' (Globe.leftL l ((ss.map fun s => s.1).take i)) ∧ B ≠ w.heap.size ∧ B ≠ w.heap.size + 1 ∧ (B = b ∨ w.heap.size ≤ B)) (fun p _ => n - (intOf p).toNat)
  case atStart => exact ⟨0, by omega, rfl, by (repeat' (first | (with_reducible assumption) | (with_reducible exact Ext.refl _) | (with_reducible refine Ext.alloc ?_ _) | (with_reducible refine Ext.drew ?_) | (with_reducible refine Ext.drewN ?_ _) | (with_reducible refine Ext.setCell ?_ ?_ _) | (with_reducible refine Ext.trans ?_ (by assumption)) | go_size)), ⟨by simp [go_sem], by simp [go_sem]⟩, b, o, k, ⟨by simp [go_sem], by simp [go_sem]⟩, HL.out.ext (by (repeat' (first | (with_reducible assumption) | (with_reducible exact Ext.refl _) | (with_reducible refine Ext.alloc ?_ _) | (with_reducible refine Ext.drew ?_) | (with_reducible refine Ext.drewN ?_ _) | (with_reducible refine Ext.setCell ?_ ?_ _) | (with_reducible refine Ext.trans ?_ (by assumption)) | go_size))), by omega, by omega, .inl rfl⟩
  case round =>
    obtain ⟨i, hi, rfl, hE, hR, B, o', k', hA, hv, Bc, Be, Bb⟩ := hrel
    obtain ⟨cA, fA⟩ := hA
    obtain ⟨cR, fR⟩ := hR
    have lA := World.block_lt_of_cell? wr _ cA
    have lR := World.block_lt_of_cell? wr _ cR
    by_cases hlt : i < n
    · obtain ⟨b3, off, s, rfl, hs, hst⟩ := H.out.at hlt
      obtain ⟨q1, q2, q3⟩ := okS_at Hok.out hs
      obtain ⟨B1, o1, c1, B2, o2, c2, d1, d2, g1, g2⟩ := hst.v q1 q2
      replace d1 := hE.cell d1; replace d2 := hE.cell d2
      have Bf := World.block_lt_of_cell? wr _ d1
      have i0 : (0 : Int) ≤ (i : Int) := by omega
      have i1 : (i : Int) < (n : Int) := by omega
      have hsn : Globe.leftL l ((ss.map fun s => s.1).take (i + 1)) = Globe.lessL (Globe.leftL l ((ss.map fun s => s.1).take i)) s.1 := by
        rw [take_snoc' (x := s.1) (by rw [List.getElem?_map, hs]; rfl), Globe.left_snoc]
      have Hsn := Lib.hid hsn; clear hsn hs hst q1 q2 q3
      go_wp2_with (go_at_call 56; refine (Unc2_v _ _ _ _ hv (by (repeat' (first | (with_reducible assumption) | (with_reducible exact Ext.refl _) | (with_reducible refine Ext.alloc ?_ _) | (with_reducible refine Ext.drew ?_) | (with_reducible refine Ext.drewN ?_ _) | (with_reducible refine Ext.setCell ?_ ?_ _) | (with_reducible refine Ext.trans ?_ (by assumption)) | go_size))) (g1.ext hE) (by (repeat' (first | (with_reducible assumption) | (with_reducible exact Ext.refl _) | (with_reducible refine Ext.alloc ?_ _) | (with_reducible refine Ext.drew ?_) | (with_reducible refine Ext.drewN ?_ _) | (with_reducible refine Ext.setCell ?_ ?_ _) | (with_reducible refine Ext.trans ?_ (by assumption)) | go_size))) (g2.ext hE) (by (repeat' (first | (with_reducible assumption) | (with_reducible exact Ext.refl _) | (with_reducible refine Ext.alloc ?_ _) | (with_reducible refine Ext.drew ?_) | (with_reducible refine Ext.drewN ?_ _) | (with_reducible refine Ext.setCell ?_ ?_ _) | (with_reducible refine Ext.trans ?_ (by assumption)) | go_size)))).mono ?_; rintro e w1 ⟨B', k3, rfl, hB', hv', hb⟩; have hc := hb.cellE; have hf := hb.frozenE; have hz := hb.size; have ha := alloc_keeps w1; (try simp only [World.size_alloc] at hc hf hz); (try simp only [World.size_setCell] at hc hf hz); (try simp only [World.size_drew] at hc hf hz))
      go_roundw
      case rel => exact ⟨i + 1, by omega, by go_num, by (repeat' (first | (with_reducible assumption) | (with_reducible exact Ext.refl _) | (with_reducible refine Ext.alloc ?_ _) | (with_reducible refine Ext.drew ?_) | (with_reducible refine Ext.drewN ?_ _) | (with_reducible refine Ext.setCell ?_ ?_ _) | (with_reducible refine Ext.trans ?_ (by assumption)) | go_size)), BoxAt.other (BoxAt.ext (by (repeat' (first | (with_reducible assumption) | (with_reducible exact Ext.refl _) | (with_reducible refine Ext.alloc ?_ _) | (with_reducible refine Ext.drew ?_) | (with_reducible refine Ext.drewN ?_ _) | (with_reducible refine Ext.setCell ?_ ?_ _) | (with_reducible refine Ext.trans ?_ (by assumption)) | go_size))) ⟨cR, fR⟩) (by show w.heap.size ≠ w.heap.size + 1; omega) _, B', 0, k3, BoxAt.set (BoxAt.ext (by (repeat' (first | (with_reducible assumption) | (with_reducible exact Ext.refl _) | (with_reducible refine Ext.alloc ?_ _) | (with_reducible refine Ext.drew ?_) | (with_reducible refine Ext.drewN ?_ _) | (with_reducible refine Ext.setCell ?_ ?_ _) | (with_reducible refine Ext.trans ?_ (by assumption)) | go_size))) ⟨cA, fA⟩) _, by rw [Hsn.out]; exact VA.other (hv'.ext (by (repeat' (first | (with_reducible assumption) | (with_reducible exact Ext.refl _) | (with_reducible refine Ext.alloc ?_ _) | (with_reducible refine Ext.drew ?_) | (with_reducible refine Ext.drewN ?_ _) | (with_reducible refine Ext.setCell ?_ ?_ _) | (with_reducible refine Ext.trans ?_ (by assumption)) | go_size)))) (by show w.heap.size ≠ B'; (try simp at hB'); omega) _, by (try simp at hB'); omega, by (try simp at hB'); omega, .inr (by (try simp at hB'); omega)⟩
      case measure => simp [intOf]; omega
    · obtain rfl : i = n := by omega
      go_wp2_with fail
      refine bodyPost_ret (v := .agg #[.slice (some ⟨B, o', none⟩) 24 k']) (by simp [results, Tryz.results52, go_sem, cR]) rfl ⟨B, o', k', rfl, ?_, Bb, by (repeat' (first | (with_reducible assumption) | (with_reducible exact Ext.refl _) | (with_reducible refine Ext.alloc ?_ _) | (with_reducible refine Ext.drew ?_) | (with_reducible refine Ext.drewN ?_ _) | (with_reducible refine Ext.setCell ?_ ?_ _) | (with_reducible refine Ext.trans ?_ (by assumption)) | go_size))⟩
      rw [List.take_of_length_le (by rw [List.length_map, Ba.out]; exact Nat.le_refl _)] at hv
      exact VA.other hv (by show w.heap.size + 1 ≠ B; omega) _
end Go.Proofs.YtajdohcgjgknmaaGreatDoor

namespace Go.Proofs.YtajdohcgjgknmaaGreatDoor
open Go.RowKit
end Go.Proofs.YtajdohcgjgknmaaGreatDoor

namespace Go.Proofs.YtajdohcgjgknmaaGreatDoor
open Go.RowKit Go.Shelf
attribute [local go_sem] Oper.semAt_some
theorem walk_c {X : Nat → Prop} {Kb Yb Nb Wb l n k : Nat} {J Jx : List YL → World → Prop} {B0 : Nat} (hJ : AbidesFrom B0 J) (hXB : ∀ b, X b → b < B0)
  (hY : ∀ pre x W1 m, J pre W1 → PhiL n x W1 → YieldAt Fence.wide m Tryz.prog l (encL x) W1 fun e W' => (e = .returned (.bool true) ∧ J (pre ++ [x]) W' ∧ KeepC X W1 W') ∨ (e = .returned (.bool false) ∧ Jx (pre ++ [x]) W' ∧ KeepC X W1 W'))
  (hkn : k ≤ n) (hn : n ≤ 1000) : ∀ (m : Nat) (a : Option Addr) (c : Nat) (lst : List Nat) (next : Nat) (pre : List YL) (W : World), lst.length + m = k → B0 ≤ W.heap.size → (∀ b off, a = some ⟨b, off, none⟩ → ¬ X b) → ListAt W a c lst → Globe.asc n 0 lst → (∀ i ∈ lst, i < next) → next ≤ n → WB X Kb Yb Nb Wb l n k W → J pre W →
   Calls Tryz.prog 107 #[.slice a lst.length c, .int .i64 next, .pointer (some ⟨Kb, 0, none⟩), .pointer (some ⟨Yb, 0, none⟩), .pointer (some ⟨Nb, 0, none⟩), .pointer (some ⟨Wb, 0, none⟩)] W (WPost X J Jx n m lst next pre W)
 | 0, a, c, lst, next, pre, W, hlen, _, _, hl, ha, _, _, hb, hJ0 => (callsIn_wide (n := 3)).1 (walk0 hJ hY a c lst next 3 pre W hlen (by omega) hl ha hb hJ0)
 | m + 1, a, c, lst, next, pre, W, hlen, hBW, hax, hl, ha, hlt, hnn, hb, hJ0 => walkS hJ hXB (walk_c hJ hXB hY hkn hn m) a c lst next pre W hlen hkn hn hBW hax hl ha hlt hnn hb hJ0
set_option maxHeartbeats 1000000 in
theorem lists1_seq {X : Nat → Prop} {Kb Nb n k : Nat} (w : World) (hXB : ∀ b, X b → b < w.heap.size) (hkn : k ≤ n) (hn : n ≤ 1000) (hK : w.cell? ⟨Kb, 0, none⟩ = some (.int .i64 k)) (hN : w.cell? ⟨Nb, 0, none⟩ = some (.int .i64 n)) (xK : ¬ X Kb) (xN : ¬ X Nb) :
  SeqM Tryz.prog 106 #[.pointer (some ⟨Kb, 0, none⟩), .pointer (some ⟨Nb, 0, none⟩)] encL (PhiL n) (KeepC X) (fun xs => xs.map (fun x => x.2.2) = Globe.combs n k [] 0) (fun pre => pre.map (fun x => x.2.2) <+: Globe.combs n k [] 0) w := by
 intro l J Jx W hW hJ hJx hY hJ0 d
 refine callsIn_wide.2 ?_
 have hK1 := Ext.cell hW hK
 have hN1 := Ext.cell hW hN
 have hs := Ext.size hW
 have lK := World.block_lt_of_cell? W _ hK1
 have lN := World.block_lt_of_cell? W _ hN1
 have HY := Lib.hid hY; clear hY
 have HJ := Lib.hid hJ; clear hJ
 have HJ0 := Lib.hid hJ0; clear hJ0
 have HXB := Lib.hid (show ∀ b, X b → b < W.heap.size from fun b h => by have := hXB b h; omega)
 clear hXB hJx hK hN hW
 show Calls Tryz.prog 106 #[.func (.yield l) #[] #[], .pointer (some ⟨Kb, 0, none⟩), .pointer (some ⟨Nb, 0, none⟩)] W _
 go_enter Tryz.func106, Tryz.ntmps106
 go_wp2_with fail
 have hE2 : Ext W ((W.alloc (.cells #[.func (.yield l) #[] #[]] 136)).alloc (.cells #[.func (.func 107) #[] #[.pointer (some ⟨Kb, 0, none⟩), .pointer (some ⟨W.heap.size, 0, none⟩), .pointer (some ⟨Nb, 0, none⟩), .pointer (some ⟨W.heap.size + 1, 0, none⟩)]] 137)) := Ext.alloc (Ext.alloc (Ext.refl W) _) _
 refine (walk_c (Yb := W.heap.size) (Wb := W.heap.size + 1) HJ.out HXB.out HY.out hkn hn k none 0 [] 0 [] _ (by simp) hE2.size (fun b off e => by cases e) (.inl ⟨rfl, rfl, rfl⟩) trivial (fun i hi => by cases hi) (Nat.zero_le _)
  ⟨hE2.cell hK1, by simp [go_sem], hE2.cell hN1, by simp [go_sem], xK, fun h => by have := HXB.out _ h; omega, xN, fun h => by have := HXB.out _ h; omega⟩ (HJ.out _ _ _ none HJ0.out (Ext.grownNone hE2) (fun r e => by cases e))).mono ?_
 rintro e w5 h5
 obtain ⟨r, rfl, H5⟩ := two_ends h5
 clear h5
 go_wp2_with fail
 go_end0
 refine ⟨⟨_, rfl⟩, ?_⟩
 rcases H5.out with ⟨-, xs, q1, q2, -⟩ | ⟨-, q, q1, q2, -⟩
 · exact .inl ⟨xs, q1, by simpa using q2⟩
 · exact .inr ⟨q, q1, by simpa using q2⟩
theorem lists_c (n k : Int) (w : World) : Calls Tryz.prog 65 #[.int .i64 n, .int .i64 k] w fun e w' => e = .returned (.func (.func 106) #[] #[.pointer (some ⟨w.heap.size + 1, 0, none⟩), .pointer (some ⟨w.heap.size, 0, none⟩)]) ∧ (w.alloc (.cells #[.int .i64 n] 3)).alloc (.cells #[.int .i64 k] 3) = w' := by
 go_enter Tryz.func65, Tryz.ntmps65
 go_wp2
 go_ret
 exact ⟨rfl, rfl⟩
set_option maxHeartbeats 2000000 in
theorem Few1_v {w1 w2 : World} {a : Option Addr} {n : Nat} {ss : List (List Int × List Int)} {b o i Lb : Nat} (k c : Nat) {l : List Int} {s : List Int × List Int} (w : World) (hl : VA w1 b o l) (e1 : Ext w1 w) (h : StripsAt w2 a n ss) (e2 : Ext w2 w) (hok : Globe.stripsOk ss = true) (hL : w.cell? ⟨Lb, 0, none⟩ = some (.slice a n c)) (hs : ss[i]? = some s) :
    Calls Tryz.prog 67 #[.agg #[.slice (some ⟨b, o, none⟩) 24 k], .int .i64 i, .pointer (some ⟨Lb, 0, none⟩)] w (RetF w (Globe.lessL l s.1)) := by
  have H := Lib.hid (h.ext e2)
  have HL := Lib.hid (hl.ext e1)
  clear hl e1 e2
  have hi : i < n := by rw [← h.1]; exact (List.getElem?_eq_some_iff.1 hs).1
  have hn := h.2.1
  clear h
  obtain ⟨b3, off, s', rfl, hs', hst⟩ := H.out.at hi
  rw [hs] at hs'; cases hs'
  obtain ⟨q1, q2, q3⟩ := okS_at hok hs
  obtain ⟨B1, o1, c1, B2, o2, Bf, d1, -, g1, -⟩ := hst.v q1 q2
  have G1 := Lib.hid g1
  have Bg := World.block_lt_of_cell? w _ d1
  have lL := World.block_lt_of_cell? w _ hL
  have i0 : (0 : Int) ≤ (i : Int) := by omega
  have i1 : (i : Int) < (n : Int) := by omega
  clear g1 hst q1 q2 q3 hok hs
  go_enter Tryz.func67, Tryz.ntmps67
  go_wp2_with fail
  refine wp_name (fun V => Ext w V ∧ V.cell? ⟨w.heap.size, 0, none⟩ = some (.slice (some ⟨b, o, none⟩) 24 k) ∧ BoxAt V (w.heap.size + 1) 0 (.slice none 0 0)) ⟨by (repeat' (first | (with_reducible assumption) | (with_reducible exact Ext.refl _) | (with_reducible refine Ext.alloc ?_ _) | (with_reducible refine Ext.drew ?_) | (with_reducible refine Ext.drewN ?_ _) | (with_reducible refine Ext.setCell ?_ ?_ _) | (with_reducible refine Ext.trans ?_ (by assumption)) | go_size)), by simp [go_sem], by simp [go_sem], by simp [go_sem]⟩ ?_
  rintro V ⟨hE, c3, c5, f5⟩
  have l3 := World.block_lt_of_cell? V _ c3
  have l5 := World.block_lt_of_cell? V _ c5
  have d1' := hE.cell d1
  have hL' := hE.cell hL
  have ld1' := World.block_lt_of_cell? V _ d1'
  have lL' := World.block_lt_of_cell? V _ hL'
  -- <<few1
  refine wg_begin [(some 6, [3], []), (some 7, [2], []), (some 8, [1], []), (some 9, [7, 8], [1, 2]), (some 10, [9], [3]), (some 11, [10], [4]), (some 12, [6, 11], [0, 5]), (none, [5, 12], [6, 6, 0, 1, 2, 3, 4, 5, 6])] (fun w' => w'.cell? ⟨w.heap.size, 0, none⟩ = some (.slice (some ⟨b, o, none⟩) 24 k) ∧ w'.cell? ⟨Lb, 0, none⟩ = some (.slice (some ⟨b3, off, none⟩) n c) ∧ w'.cell? ⟨b3, off + i * 2, none⟩ = some (.slice (some ⟨B1, o1, none⟩) 24 c1)) (by kernel_rfl) (by kernel_rfl) (by kernel_rfl) (by kernel_rfl) (by intro c d v a w h; cases d <;> first | exact h | (exact nomatch h.1) | (dsimp +zetaDelta only [Exit.then, Exit.inBlock] at h ⊢; exact h)) (⟨c3, hL', d1'⟩) (fun ops Q L hL hR hK hHeld => ?_); replace hL := Lib.hid hL; have B7 := @evalW_tmp; have Ba := @evalW_const; have Bb := @evalW_func; have Bc := @look_cons; have Be := @look_nil
  have r3 := wg_read hL.out 3 rfl
  have r2 := wg_read hL.out 2 rfl
  have r1 := wg_read hL.out 1 rfl
  have r5 := wg_read hL.out 5 rfl
  (refine wg_take 0 (v := ?_) hR rfl (by kernel_rfl) (by kernel_rfl) ?_ (by with_reducible assumption) ?_; rotate_left; (focus (intro w hSw; (try dsimp only at hSw); go_simp; (try with_reducible rfl))); (dsimp only [putW]))
  (refine wg_take 1 (v := ?_) hR rfl (by kernel_rfl) (by kernel_rfl) ?_ (by with_reducible assumption) ?_; rotate_left; (focus (intro w hSw; (try dsimp only at hSw); go_simp; (try with_reducible rfl))); (dsimp only [putW]))
  (refine wg_take 2 (v := ?_) hR rfl (by kernel_rfl) (by kernel_rfl) ?_ (by with_reducible assumption) ?_; rotate_left; (focus (intro w hSw; (try dsimp only at hSw); go_simp; (try with_reducible rfl))); (dsimp only [putW]))
  (refine wg_take 3 (v := ?_) hR rfl (by kernel_rfl) (by kernel_rfl) ?_ (by with_reducible assumption) ?_; rotate_left; (focus (intro w hSw; (try dsimp only at hSw); go_simp; (try with_reducible rfl))); (dsimp only [putW]))
  (refine wg_take 4 (v := ?_) hR rfl (by kernel_rfl) (by kernel_rfl) ?_ (by with_reducible assumption) ?_; rotate_left; (focus (intro w hSw; (try dsimp only at hSw); go_simp; (try with_reducible rfl))); (dsimp only [putW]))
  (refine wg_take 5 (v := ?_) hR rfl (by kernel_rfl) (by kernel_rfl) ?_ (by with_reducible assumption) ?_; rotate_left; (focus (intro w hSw; (try dsimp only at hSw); go_simp; (try with_reducible rfl))); (dsimp only [putW]))
  (refine wg_step 6 hR rfl (by kernel_rfl) (by kernel_rfl) ?_ (by kernel_rfl); refine wg_call (f := 55) (args := ?_) ?_ ?_; rotate_left; (focus (go_simp; first | done | (with_reducible rfl) | (refine ⟨?_, ?_⟩ <;> with_reducible rfl))); (go_at_call 55; refine (less_v k c1 _ HL.out (hE.trans (Ext.drew (Ext.refl V))) G1.out (hE.trans (Ext.drew (Ext.refl V)))).mono ?_; rintro e w5 ⟨B, kk, rfl, hB, hv, hb⟩; have HV := Lib.hid hv; clear hv; obtain ⟨c5', f5'⟩ := BoxAt.ext (Ext.trans (Ext.drew (Ext.refl V)) hb) ⟨c5, f5⟩); refine ⟨_, rfl, ⟨hb.cell hHeld.1, hb.cell hHeld.2.1, hb.cell hHeld.2.2⟩, fun hHeld => ?_⟩; (dsimp only [putW]))
  (refine wg_step 7 hR rfl (by kernel_rfl) (by kernel_rfl) ?_ (by kernel_rfl); refine wg_skp (w' := ?_) ?_ ?_ ?_; rotate_left; (focus (go_simp; first | done | (with_reducible rfl))); (focus (exact ⟨by simp [go_sem, hHeld.1], by simp [go_sem, hHeld.2.1], by simp [go_sem, hHeld.2.2]⟩)); intro hHeld; (dsimp only [putW]))
  refine wg_fin hR hK [(6, 6), (0, 5), (0, 4), (0, 3), (0, 2), (0, 1), (0, 0)] (by kernel_rfl) (by kernel_rfl) (by dsimp only [mg, gsOf, valAt]) ?_; clear B7 Ba Bb Bc Be hR hK hL
  clear r3; clear r2; clear r1; clear r5
  -- >>
  go_wp2_with fail
  refine bodyPost_ret (v := .agg #[.slice (some ⟨B, 0, none⟩) 24 kk]) (by simp [results, Tryz.results67, go_sem, c5']) rfl ⟨B, kk, rfl, ?_, ?_, ?_⟩
  · have := hE.size; simp at hB; omega
  · refine VA.other HV.out (p := ⟨w.heap.size + 1, 0, none⟩) ?_ _
    have := hE.size; simp at hB
    show w.heap.size + 1 ≠ B; omega
  · exact Ext.setCell (hE.trans (Ext.trans (Ext.drew (Ext.refl V)) hb)) (p := ⟨w.heap.size + 1, 0, none⟩) (by show _ ≤ w.heap.size + 1; omega) _
set_option maxHeartbeats 2000000 in
theorem foldN_v {w1 w2 w3 : World} {a a0 : Option Addr} {n : Nat} {ss : List (List Int × List Int)} {lst : List Nat} {b o Lb : Nat} (c0 k c : Nat) {l : List Int} (w : World) (hI : IntsAt w3 a0 (intsN lst)) (e3 : Ext w3 w) (hlst : ∀ i ∈ lst, i < n) (hlen : lst.length ≤ 1000) (hl : VA w1 b o l) (e1 : Ext w1 w) (h : StripsAt w2 a n ss) (e2 : Ext w2 w) (hok : Globe.stripsOk ss = true) (hL : w.cell? ⟨Lb, 0, none⟩ = some (.slice a n c)) :
    Calls Tryz.prog 66 #[.slice a0 lst.length c0, .agg #[.slice (some ⟨b, o, none⟩) 24 k], .func (.func 67) #[] #[.pointer (some ⟨Lb, 0, none⟩)]] w (RetO w b (Globe.leftL l (lst.map (Globe.sureAt (ss.map fun s => s.1))))) := by
  have H := Lib.hid (h.ext e2)
  have HL := Lib.hid (hl.ext e1)
  have HI := Lib.hid (hI.ext e3)
  have hbl := HL.out.lt
  have lL := World.block_lt_of_cell? w _ hL
  clear h hl e1 e2 hI e3
  have Hlst := Lib.hid hlst; clear hlst
  have Hok := Lib.hid hok; clear hok
  go_enter Tryz.func66, Tryz.ntmps66
  go_wp2_with fail
  go_loopw [11] (fun p wr => ∃ i : Nat, i ≤ lst.length ∧ p = .int .i64 i ∧ Ext w wr ∧ BoxAt wr (w.heap.size + 1) 0 (.slice none 0 0) ∧ ∃ B o' k', BoxAt wr w.heap.size 0 (.slice (some ⟨B, o', none⟩) 24 k') ∧ VA wr B o' (Globe.leftL l ((lst.map (Globe.sureAt (ss.map fun s => s.1))).take i)) ∧ B ≠ w.heap.size ∧ B ≠ w.heap.size + 1 ∧ (B = b ∨ w.heap.size ≤ B)) (fun p _ => lst.length - (intOf p).toNat)
  case atStart => exact ⟨0, by omega, rfl, by (repeat' (first | (with_reducible assumption) | (with_reducible exact Ext.refl _) | (with_reducible refine Ext.alloc ?_ _) | (with_reducible refine Ext.drew ?_) | (with_reducible refine Ext.drewN ?_ _) | (with_reducible refine Ext.setCell ?_ ?_ _) | (with_reducible refine Ext.trans ?_ (by assumption)) | go_size)), ⟨by simp [go_sem], by simp [go_sem]⟩, b, o, k, ⟨by simp [go_sem], by simp [go_sem]⟩, HL.out.ext (by (repeat' (first | (with_reducible assumption) | (with_reducible exact Ext.refl _) | (with_reducible refine Ext.alloc ?_ _) | (with_reducible refine Ext.drew ?_) | (with_reducible refine Ext.drewN ?_ _) | (with_reducible refine Ext.setCell ?_ ?_ _) | (with_reducible refine Ext.trans ?_ (by assumption)) | go_size))), by omega, by omega, .inl rfl⟩
  case round =>
    obtain ⟨i, hi, rfl, hE, hR, B, o', k', hA, hv, Ba, Bb, B7⟩ := hrel
    obtain ⟨cA, fA⟩ := hA
    obtain ⟨cR, fR⟩ := hR
    have lA := World.block_lt_of_cell? wr _ cA
    have lR := World.block_lt_of_cell? wr _ cR
    by_cases hlt : i < lst.length
    · obtain ⟨b3, off, rfl, hx⟩ : ∃ b3 off, a0 = some ⟨b3, off, none⟩ ∧ ∀ i, i < (intsN lst).length → w.cell? ⟨b3, off + i, none⟩ = some (.int .i64 (Globe.nth (intsN lst) i)) := by
        rcases HI.out with h | h
        · exfalso
          have : (intsN lst).length = 0 := by rw [h]; rfl
          rw [intsN_len] at this; omega
        · exact h
      obtain ⟨q, hq⟩ : ∃ q, lst[i]? = some q := ⟨_, List.getElem?_eq_getElem hlt⟩
      have hqn := Hlst.out q (List.mem_of_getElem? hq)
      have d1 := hE.cell (hx i (by rw [intsN_len]; exact hlt))
      have hnq : Globe.nth (intsN lst) i = (q : Int) := by simp [Globe.nth, intsN, hq]
      rw [hnq] at d1
      have hLr := hE.cell hL
      obtain ⟨s, hs⟩ : ∃ s, ss[q]? = some s := ⟨_, List.getElem?_eq_getElem (by rw [H.out.1]; exact hqn)⟩
      have hsn : Globe.leftL l ((lst.map (Globe.sureAt (ss.map fun s => s.1))).take (i + 1)) = Globe.lessL (Globe.leftL l ((lst.map (Globe.sureAt (ss.map fun s => s.1))).take i)) s.1 := by
        rw [take_snoc' (x := s.1) (by rw [List.getElem?_map, hq]; simp [Globe.sureAt, hs]), Globe.left_snoc]
      have Hsn := Lib.hid hsn
      have Hs := Lib.hid hs
      clear hsn hs hx hnq hq
      have Bc := World.block_lt_of_cell? wr _ d1
      have i0 : (0 : Int) ≤ (i : Int) := by omega
      have i1 : (i : Int) < (lst.length : Int) := by omega
      go_wp2_with (go_at_call 67; refine (Few1_v _ c _ hv (by (repeat' (first | (with_reducible assumption) | (with_reducible exact Ext.refl _) | (with_reducible refine Ext.alloc ?_ _) | (with_reducible refine Ext.drew ?_) | (with_reducible refine Ext.drewN ?_ _) | (with_reducible refine Ext.setCell ?_ ?_ _) | (with_reducible refine Ext.trans ?_ (by assumption)) | go_size))) (H.out.ext hE) (by (repeat' (first | (with_reducible assumption) | (with_reducible exact Ext.refl _) | (with_reducible refine Ext.alloc ?_ _) | (with_reducible refine Ext.drew ?_) | (with_reducible refine Ext.drewN ?_ _) | (with_reducible refine Ext.setCell ?_ ?_ _) | (with_reducible refine Ext.trans ?_ (by assumption)) | go_size))) Hok.out hLr Hs.out).mono ?_; rintro e w1 ⟨B', k3, rfl, hB', hv', hb⟩; have hc := hb.cellE; have hf := hb.frozenE; have hz := hb.size; have ha := alloc_keeps w1; (try simp only [World.size_alloc] at hc hf hz); (try simp only [World.size_setCell] at hc hf hz); (try simp only [World.size_drew] at hc hf hz))
      go_roundw
      case rel => exact ⟨i + 1, by omega, by go_num, by (repeat' (first | (with_reducible assumption) | (with_reducible exact Ext.refl _) | (with_reducible refine Ext.alloc ?_ _) | (with_reducible refine Ext.drew ?_) | (with_reducible refine Ext.drewN ?_ _) | (with_reducible refine Ext.setCell ?_ ?_ _) | (with_reducible refine Ext.trans ?_ (by assumption)) | go_size)), BoxAt.other (BoxAt.ext (by (repeat' (first | (with_reducible assumption) | (with_reducible exact Ext.refl _) | (with_reducible refine Ext.alloc ?_ _) | (with_reducible refine Ext.drew ?_) | (with_reducible refine Ext.drewN ?_ _) | (with_reducible refine Ext.setCell ?_ ?_ _) | (with_reducible refine Ext.trans ?_ (by assumption)) | go_size))) ⟨cR, fR⟩) (by show w.heap.size ≠ w.heap.size + 1; omega) _, B', 0, k3, BoxAt.set (BoxAt.ext (by (repeat' (first | (with_reducible assumption) | (with_reducible exact Ext.refl _) | (with_reducible refine Ext.alloc ?_ _) | (with_reducible refine Ext.drew ?_) | (with_reducible refine Ext.drewN ?_ _) | (with_reducible refine Ext.setCell ?_ ?_ _) | (with_reducible refine Ext.trans ?_ (by assumption)) | go_size))) ⟨cA, fA⟩) _, by rw [Hsn.out]; exact VA.other (hv'.ext (by (repeat' (first | (with_reducible assumption) | (with_reducible exact Ext.refl _) | (with_reducible refine Ext.alloc ?_ _) | (with_reducible refine Ext.drew ?_) | (with_reducible refine Ext.drewN ?_ _) | (with_reducible refine Ext.setCell ?_ ?_ _) | (with_reducible refine Ext.trans ?_ (by assumption)) | go_size)))) (by show w.heap.size ≠ B'; (try simp at hB'); omega) _, by (try simp at hB'); omega, by (try simp at hB'); omega, .inr (by (try simp at hB'); omega)⟩
      case measure => simp [intOf]; omega
    · obtain rfl : i = lst.length := by omega
      go_wp2_with fail
      refine bodyPost_ret (v := .agg #[.slice (some ⟨B, o', none⟩) 24 k']) (by simp [results, Tryz.results66, go_sem, cR]) rfl ⟨B, o', k', rfl, ?_, B7, by (repeat' (first | (with_reducible assumption) | (with_reducible exact Ext.refl _) | (with_reducible refine Ext.alloc ?_ _) | (with_reducible refine Ext.drew ?_) | (with_reducible refine Ext.drewN ?_ _) | (with_reducible refine Ext.setCell ?_ ?_ _) | (with_reducible refine Ext.trans ?_ (by assumption)) | go_size))⟩
      rw [List.take_of_length_le (by rw [List.length_map]; exact Nat.le_refl _)] at hv
      exact VA.other hv (by show w.heap.size + 1 ≠ B; omega) _
end Go.Proofs.YtajdohcgjgknmaaGreatDoor

namespace Go.Proofs.YtajdohcgjgknmaaGreatDoor
open Go.RowKit
theorem Count_r {w0 : World} {b o : Nat} (c : Nat) {l : List Int} {n : Nat} (w : World) (h : VA w0 b o l) (hE : Ext w0 w) (hT : Tab w) (hn : (Globe.cellsTo l 24).length = n) :
  Calls Tryz.prog 68 #[.agg #[.slice (some ⟨b, o, none⟩) 24 c]] w fun e w' => e = .returned (.int .i64 n) ∧ Ext w w' := hn ▸ Count_v c w h hE hT
end Go.Proofs.YtajdohcgjgknmaaGreatDoor

namespace Go.Proofs.YtajdohcgjgknmaaGreatDoor
open Go.RowKit Go.Shelf
attribute [local go_sem] Oper.semAt_some
def FewRes (w : World) (r : Option (List Nat)) (e : Ending) (w' : World) : Prop :=
 ∃ (a : Option Addr) (c : Nat), e = .returned (.tuple #[.slice a (r.getD []).length c, .bool r.isSome, .int .i64 0]) ∧ IntsAt w' a (intsN (r.getD [])) ∧ Ext w w'
def FrF (s F n : Nat) (p : Value) (u : Nat → Value) : Array Value := #[u 0, u 1, .pointer (some ⟨s, 0, none⟩), .pointer (some ⟨s + 1, 0, none⟩), u 4, u 5, u 6, .pointer (some ⟨F, 0, none⟩), .pointer (some ⟨F + 1, 0, none⟩), u 9, u 10, u 11, u 12, u 13, u 14, u 15, u 16, u 17, u 18, u 19, u 20, u 21, u 22, u 23, u 24, u 25, u 26, .int .i64 ((n : Int) + 1), p, u 29, u 30, u 31, u 32, u 33, u 34, u 35, u 36, u 37, u 38, u 39, u 40, u 41, u 42, u 43, u 44, u 45, u 46]
def FrOk (s F n : Nat) (p : Value) (X : Array Value) : Prop := ∃ u, X = FrF s F n p u
theorem frOk_lit {s F n : Nat} {p : Value} (X : Array Value) (h : X = FrF s F n p (fun j => X.getD j undef)) : FrOk s F n p X := ⟨_, h⟩
def marksF (Ds : List Nat) : List Deferred := Ds.map fun D => { target := .collected D, args := #[] }
def FewI (w : World) (s F : Nat) (a : Option Addr) (n c : Nat) (b o k : Nat) (Ds : List Nat) (found : Value) (ok : Bool) (W : World) : Prop :=
 BoxAt W F 0 found ∧ BoxAt W (F + 1) 0 (.bool ok) ∧ W.cell? ⟨s, 0, none⟩ = some (.slice (some ⟨b, o, none⟩) 24 k) ∧ W.cell? ⟨s + 1, 0, none⟩ = some (.slice a n c) ∧ Ext w W ∧ Ds.Nodup ∧ ∀ D ∈ Ds, w.heap.size ≤ D ∧ W.heap[D]? = some (.deferred (some []))
def FewA (w : World) (s F : Nat) (a : Option Addr) (n c : Nat) (b o k : Nat) (q : List Nat → Bool) (A : Act) (W : World) : Prop :=
 ∃ (i : Nat) (Ds : List Nat), FrOk s F n (.int .i64 i) A.tmps ∧ A.defers = marksF Ds ∧ i ≤ n + 1 ∧ (∀ j, j < i → (Globe.combs n j [] 0).find? q = none) ∧ FewI w s F a n c b o k Ds (.slice none 0 0) false W
def FewOut (w : World) (s F : Nat) (a : Option Addr) (n c : Nat) (b o k : Nat) (q : List Nat → Bool) (e : Exit) (A : Act) (W : World) : Prop :=
 e = .exit 0 ∧ ∃ (p : Value) (Ds : List Nat) (fa : Option Addr) (fc : Nat), FrOk s F n p A.tmps ∧ A.defers = marksF Ds ∧ FewI w s F a n c b o k Ds (.slice fa ((Globe.fewestL q n).getD []).length fc) (Globe.fewestL q n).isSome W ∧ IntsAt W fa (intsN ((Globe.fewestL q n).getD []))
def FewJ (w : World) (s F : Nat) (a : Option Addr) (n c : Nat) (b o k : Nat) (Ds : List Nat) (q : List Nat → Bool) (pre : List YL) (W : World) : Prop :=
 FewI w s F a n c b o k Ds (.slice none 0 0) false W ∧ ∀ x ∈ pre, q x.2.2 = false
def FewX (w : World) (s F : Nat) (a : Option Addr) (n c : Nat) (b o k : Nat) (Ds : List Nat) (q : List Nat → Bool) (cd : Code) (pre : List YL) (W : World) : Prop :=
 cd = .exit 0 ∧ ∃ (ys : List YL) (x : YL), pre = ys ++ [x] ∧ (∀ y ∈ ys, q y.2.2 = false) ∧ q x.2.2 = true ∧ FewI w s F a n c b o k Ds (.slice x.1 x.2.2.length x.2.1) true W ∧ IntsAt W x.1 (intsN x.2.2)
theorem FewI.own {w : World} {s F : Nat} {a : Option Addr} {n c b o k : Nat} {Ds : List Nat} {f : Value} {ok : Bool} {B : Nat} (hB : w.heap.size ≤ B) (hD : ∀ D ∈ Ds, D < B) {W W' : World} {row : Option Nat} (h : FewI w s F a n c b o k Ds f ok W) (hg : W.grownBy W' row) (hr : ∀ r, row = some r → B ≤ r ∧ ∃ o : Obj, W.heap[r]? = some o ∧ o.isCells = false) : FewI w s F a n c b o k Ds f ok W' := by
 obtain ⟨⟨c1, f1⟩, ⟨c2, f2⟩, h3, h4, h5, h6, h7⟩ := h
 have hr' := fun r e => (hr r e).2
 refine ⟨⟨cell_kept c1 hg hr', (frozen_kept c1 hg hr').trans f1⟩, ⟨cell_kept c2 hg hr', (frozen_kept c2 hg hr').trans f2⟩, cell_kept h3 hg hr', cell_kept h4 hg hr', Below.grown h5 hg h5.size (fun j e => T hB (hr j e).1), h6, fun D hDs => ⟨(h7 D hDs).1, ?_⟩⟩
 exact (hg.block D (Array.getElem?_eq_some_iff.1 (h7 D hDs).2).1 (fun e => by have := hD D hDs; have := (hr D e.symm).1; omega)).trans (h7 D hDs).2
theorem FewI.ext {w : World} {s F : Nat} {a : Option Addr} {n c b o k : Nat} {Ds : List Nat} {f : Value} {ok : Bool} {W W' : World} (h : FewI w s F a n c b o k Ds f ok W) (hE : Ext W W') : FewI w s F a n c b o k Ds f ok W' := by
 obtain ⟨h1, h2, h3, h4, h5, h6, h7⟩ := h
 exact ⟨BoxAt.ext hE h1, BoxAt.ext hE h2, hE.cell h3, hE.cell h4, h5.trans hE, h6, fun D hD => ⟨(h7 D hD).1, (Below.block hE D (Array.getElem?_eq_some_iff.1 (h7 D hD).2).1).trans (h7 D hD).2⟩⟩
theorem IntsAt.kept {W W' : World} {row : Option Nat} {a : Option Addr} {l : List Int} (h : IntsAt W a l) (hg : W.grownBy W' row) (hr : ∀ r, row = some r → ∃ o : Obj, W.heap[r]? = some o ∧ o.isCells = false) : IntsAt W' a l :=
 h.imp id fun ⟨b, off, ha, hc⟩ => ⟨b, off, ha, fun i hi => cell_kept (hc i hi) hg hr⟩
theorem PhiL.own {n B : Nat} (x : YL) : OwnFrom B (fun (_ : Unit) W => PhiL n x W) := fun _ W W' row h hg hr => by
 obtain ⟨h1, h2⟩ := h
 exact ⟨h1.imp id fun ⟨q1, q2, b, off, ha, hc⟩ => ⟨q1, q2, b, off, ha, fun i hi => cell_kept (hc i hi) hg (fun r e => (hr r e).2)⟩, h2⟩
theorem ne_of_mark {V : World} {D F : Nat} {v : Value} {ds : Option (List Deferred)} (hD : V.heap[D]? = some (.deferred ds)) (hc : V.cell? ⟨F, 0, none⟩ = some v) : D ≠ F := by
 rintro rfl
 obtain ⟨o, ho, hi⟩ := cells_of_cell hc
 rw [hD] at ho; cases ho; cases hi
theorem ints_other {w : World} {a : Option Addr} {l : List Int} (h : IntsAt w a l) {p : Addr} (hp : ∀ ad, a = some ad → l ≠ [] → ad.block ≠ p.block) (v : Value) : IntsAt (w.setCell p v) a l := by
 by_cases hl : l = []
 · exact .inl hl
 rcases h with h | ⟨b, off, rfl, h⟩
 · exact .inl h
 · exact .inr ⟨b, off, rfl, fun i hi => by rw [World.cell?_setCell_other w _ _ _ (fun e => hp _ rfl hl (by rw [e]))]; exact h i hi⟩
theorem ints_not {w : World} {a : Option Addr} {l : List Int} (h : IntsAt w a l) (h0 : ∀ b off, a = some ⟨b, off, none⟩ → off = 0) {ad : Addr} (e : a = some ad) (hl : l ≠ []) {v : Value} (hc : w.cell? ⟨ad.block, 0, none⟩ = some v) (hv : ∀ z, v ≠ .int .i64 z) : False := by
  rcases h with h | ⟨b, off, rfl, h⟩
  · exact hl h
  · cases e
    obtain rfl := h0 b off rfl
    have := h 0 (List.length_pos_iff.2 hl)
    rw [Nat.add_zero, hc] at this
    cases this; exact hv _ rfl
def muF (n : Nat) (A : Act) (_ : World) : Nat := n + 2 - (intOf (A.tmps.getD 28 undef)).toNat
set_option maxRecDepth 100000 in
set_option maxHeartbeats 4000000 in
theorem Fewest_r {r : Option (List Nat)} {w1 w2 : World} {a : Option Addr} {n : Nat} {ss : List (List Int × List Int)} {b o : Nat} (c k : Nat) {l : List Int} (w : World) (hl : VA w1 b o l) (e1 : Ext w1 w) (h : StripsAt w2 a n ss) (e2 : Ext w2 w) (hok : Globe.stripsOk ss = true) (h12 : n ≤ 12) (hT : Tab w) (hr : Globe.fewestL (Globe.enough l (ss.map fun s => s.1)) n = r) :
    Calls Tryz.prog 15 #[.agg #[.slice (some ⟨b, o, none⟩) 24 k], .slice a n c] w (FewRes w r) := by
  have Hr := Lib.hid hr; clear hr
  have H := Lib.hid (h.ext e2)
  have HL := Lib.hid (hl.ext e1)
  have hbl := HL.out.lt
  clear h hl e1 e2
  have Hok := Lib.hid hok; clear hok
  have HT := Lib.hid hT; clear hT
  have n0 : (n : Int) ≤ 12 := by omega
  refine (callsIn_wide (n := 3)).1 ?_
  refine callsIn_of_wp_marks Tryz.func15 rfl trivial ?_ rfl
  simp only [Tryz.ntmps15, List.size_toArray, List.length_cons, List.length_nil, Nat.reduceAdd, Nat.reduceSub, Array.replicate_succ, Array.replicate_zero, List.push_toArray, List.append_toArray, List.nil_append, List.cons_append]
  refine wpIn_wide.2 ?_
  go_wp2_with fail
  go_step3
  go_wp2_with fail
  refine (Valid_e k _ HL.out.aa (by (repeat' (first | (with_reducible assumption) | (with_reducible exact Ext.refl _) | (with_reducible refine Ext.alloc ?_ _) | (with_reducible refine Ext.drew ?_) | (with_reducible refine Ext.drewN ?_ _) | (with_reducible refine Ext.setCell ?_ ?_ _) | (with_reducible refine Ext.trans ?_ (by assumption)) | go_size)))).mono ?_
  rintro e w1 ⟨rfl, hb⟩
  have hc := hb.cellE; have hf := hb.frozenE; have hz := hb.size; have ha := alloc_keeps w1; (try simp only [World.size_alloc] at hc hf hz); (try simp only [World.size_setCell] at hc hf hz); (try simp only [World.size_drew] at hc hf hz)
  go_wp2_with fail
  refine (ValidS_r c _ H.out (by (repeat' (first | (with_reducible assumption) | (with_reducible exact Ext.refl _) | (with_reducible refine Ext.alloc ?_ _) | (with_reducible refine Ext.drew ?_) | (with_reducible refine Ext.drewN ?_ _) | (with_reducible refine Ext.setCell ?_ ?_ _) | (with_reducible refine Ext.trans ?_ (by assumption)) | go_size))) Hok.out).mono ?_
  rintro e w2 ⟨rfl, hb⟩
  have hc := hb.cellE; have hf := hb.frozenE; have hz := hb.size; have ha := alloc_keeps w2; (try simp only [World.size_alloc] at hc hf hz); (try simp only [World.size_setCell] at hc hf hz); (try simp only [World.size_drew] at hc hf hz)
  go_wp2_with fail
  go_step3
  go_wp2_with fail
  have bF : BoxAt ((w2.alloc (.cells #[.slice none 0 0] 24)).alloc (.cells #[.bool false] 4)) w2.heap.size 0 (.slice none 0 0) := ⟨by simp [go_sem], by simp [go_sem]⟩
  have bO : BoxAt ((w2.alloc (.cells #[.slice none 0 0] 24)).alloc (.cells #[.bool false] 4)) (w2.heap.size + 1) 0 (.bool false) := ⟨by simp [go_sem], by simp [go_sem]⟩
  have e2 : Ext w w2 := by (repeat' (first | (with_reducible assumption) | (with_reducible exact Ext.refl _) | (with_reducible refine Ext.alloc ?_ _) | (with_reducible refine Ext.drew ?_) | (with_reducible refine Ext.drewN ?_ _) | (with_reducible refine Ext.setCell ?_ ?_ _) | (with_reducible refine Ext.trans ?_ (by assumption)) | go_size))
  have cS : w1.cell? ⟨w.heap.size, 0, none⟩ = some (.slice (some ⟨b, o, none⟩) 24 k) := Ext.cell (by with_reducible assumption) (by simp [go_sem])
  have cT : w1.cell? ⟨w.heap.size + 1, 0, none⟩ = some (.slice a n c) := Ext.cell (by with_reducible assumption) (by simp [go_sem])
  have Bm : Ext w1 w2 := by (repeat' (first | (with_reducible assumption) | (with_reducible exact Ext.refl _) | (with_reducible refine Ext.alloc ?_ _) | (with_reducible refine Ext.drew ?_) | (with_reducible refine Ext.drewN ?_ _) | (with_reducible refine Ext.setCell ?_ ?_ _) | (with_reducible refine Ext.trans ?_ (by assumption)) | go_size))
  have Br := Ext.cell (Ext.alloc (Ext.alloc Bm (.cells #[.slice none 0 0] 24)) (.cells #[.bool false] 4)) cS
  have Bt := Ext.cell (Ext.alloc (Ext.alloc Bm (.cells #[.slice none 0 0] 24)) (.cells #[.bool false] 4)) cT
  have eW := Ext.alloc (Ext.alloc e2 (.cells #[.slice none 0 0] 24)) (.cells #[.bool false] 4)
  have lS := World.block_lt_of_cell? _ _ (Ext.cell Bm cT)
  generalize (w2.alloc (.cells #[.slice none 0 0] 24)).alloc (.cells #[.bool false] 4) = W at *
  generalize hF : w2.heap.size = F at *
  clear cS cT Bm e2 hb hc hf hz ha; clear hb hc hf hz ha
  refine wp_mono (show Code.wp _ _ (FewOut w w.heap.size F a n c b o k (Globe.enough l (ss.map fun s => s.1))) _ _ from ?_) ?_
  · refine wp_loop (FewA w w.heap.size F a n c b o k (Globe.enough l (ss.map fun s => s.1))) (muF n) ?_ ?_
    · exact ⟨0, [], frOk_lit _ rfl, rfl, by omega, fun j hj => by omega, bF, bO, Br, Bt, eW, List.nodup_nil, fun D hD => by cases hD⟩
    · clear bF bO Br Bt eW W
      rintro ⟨X, ds⟩ W ⟨i, Ds, ⟨u, hu⟩, hds, hi, hno, ⟨cF, fF⟩, ⟨cO, fO⟩, cS, cT, hE, hnd, hDs⟩
      dsimp only at hu hds
      subst hu hds
      unfold FrF
      have Hno := Lib.hid hno; clear hno
      have HDs := Lib.hid hDs; clear hDs
      have Hnd := Lib.hid hnd; clear hnd
      have i0 : (0 : Int) ≤ (i : Int) := by omega
      have i1 : (i : Int) ≤ (n : Int) + 1 := by omega
      by_cases hlt : i < n + 1
      · have i2 : (i : Int) < (n : Int) + 1 := by omega
        go_wp2_with (go_at_call 65; refine (lists_c _ _ _).mono ?_; rintro e w' ⟨rfl, rfl⟩)
        have Ca : ((W.alloc (.cells #[.int .i64 n] 3)).alloc (.cells #[.int .i64 i] 3)).heap.size = W.heap.size + 2 := by simp
        have e3 : Ext W ((W.alloc (.cells #[.int .i64 n] 3)).alloc (.cells #[.int .i64 i] 3)) := Ext.alloc (Ext.alloc (Ext.refl _) _) _
        have cK : ((W.alloc (.cells #[.int .i64 n] 3)).alloc (.cells #[.int .i64 i] 3)).cell? ⟨W.heap.size + 1, 0, none⟩ = some (.int .i64 i) := by simp [go_sem]
        have cN : ((W.alloc (.cells #[.int .i64 n] 3)).alloc (.cells #[.int .i64 i] 3)).cell? ⟨W.heap.size, 0, none⟩ = some (.int .i64 n) := by simp [go_sem]
        have Bv : FewI w w.heap.size F a n c b o k Ds (.slice none 0 0) false W := ⟨⟨cF, fF⟩, ⟨cO, fO⟩, cS, cT, hE, Hnd.out, HDs.out⟩
        have C1 := Lib.hid (Bv.ext e3)
        have C6 : F < W.heap.size := World.block_lt_of_cell? W _ cF
        have C8 : F + 1 < W.heap.size := World.block_lt_of_cell? W _ cO
        have C9 : w.heap.size + 1 < W.heap.size := World.block_lt_of_cell? W _ cT
        have Bk := Lib.hid (show ∀ D ∈ Ds, D < W.heap.size from fun D hD => (Array.getElem?_eq_some_iff.1 (HDs.out D hD).2).1)
        have hEs := hE.size
        clear cF fF cO fO cS cT hE Bv
        generalize ((W.alloc (.cells #[.int .i64 n] 3)).alloc (.cells #[.int .i64 i] 3)) = W3 at *
        have C5 := Lib.hid e3; clear e3
        refine wpIn_wide (n := 3).1 ?_
        refine rangeFunc_mem (gf := 106) (lb := #[.pointer (some ⟨W.heap.size + 1, 0, none⟩), .pointer (some ⟨W.heap.size, 0, none⟩)]) rfl (enters_of Tryz.func106 (by kernel_rfl) rfl)
          (lists1_seq (X := fun z => z = F ∨ z = F + 1) (n := n) (k := i) W3 (fun z hz => by rcases hz with rfl | rfl <;> omega) (by omega) (by omega) cK cN (fun h => by rcases h with h | h <;> omega) (fun h => by rcases h with h | h <;> omega)) (Below.refl _ _) (fun _ => rfl) (fun x => PhiL.own x) KeepC.trans (fun W l o o' _ h hc _ => KeepC.putObj W o' h hc)
          (FewJ w w.heap.size F a n c b o k Ds (Globe.enough l (ss.map fun s => s.1))) (FewX w w.heap.size F a n c b o k Ds (Globe.enough l (ss.map fun s => s.1)))
          (fun pre A B row h hg hr => ⟨h.1.own (by omega) (fun D hD => by have := Bk.out D hD; omega) hg hr, h.2⟩)
          (fun cd pre A B row h hg hr => by
            obtain ⟨h1, ys, x, h2, h3, h4, h5, h6⟩ := h
            exact ⟨h1, ys, x, h2, h3, h4, h5.own (by omega) (fun D hD => by have := Bk.out D hD; omega) hg hr, h6.kept hg (fun r e => (hr r e).2)⟩)
          ⟨C1.out, fun x hx => by cases hx⟩
          (fun x => { tmps := #[u 0, u 1, .pointer (some ⟨w.heap.size, 0, none⟩), .pointer (some ⟨w.heap.size + 1, 0, none⟩), u 4, u 5, u 6, .pointer (some ⟨F, 0, none⟩), .pointer (some ⟨F + 1, 0, none⟩), .int .i64 i, .slice x.1 x.2.2.length x.2.1, u 11, u 12, u 13, u 14, u 15, u 16, u 17, u 18, u 19, u 20, u 21, u 22, u 23, u 24, u 25, u 26, .int .i64 ((n : Int) + 1), .int .i64 i, .bool true, .int .i64 i, .slice a n c, .int .i64 n, .int .i64 i, .func (.func 106) #[] #[.pointer (some ⟨W.heap.size + 1, 0, none⟩), .pointer (some ⟨W.heap.size, 0, none⟩)], .slice x.1 x.2.2.length x.2.1, u 36, u 37, u 38, u 39, u 40, u 41, u 42, u 43, u 44, u 45, u 46], defers := [] }) ?assign ?body ?done ?stop
        case assign =>
          intro l0 m0 x V K hK
          dsimp only [encL]
          gi_wp2
          exact hK
        case body =>
          rintro l0 m0 pre x V ⟨⟨⟨cF, fF⟩, ⟨cO, fO⟩, cS, cT, hE, -, hDV⟩, hpre⟩ ⟨Bw, Bx, Bz, C0⟩
          dsimp only
          have hxi : IntsAt V x.1 (intsN x.2.2) := Bw.ints
          have lF := World.block_lt_of_cell? V _ cF
          have lO := World.block_lt_of_cell? V _ cO
          have lS := World.block_lt_of_cell? V _ cS
          have lT := World.block_lt_of_cell? V _ cT
          have HDV := Lib.hid hDV; clear hDV
          have Hpre := Lib.hid hpre; clear hpre
          have Hxi := Lib.hid hxi; clear hxi Bw
          have Bu := Lib.hid C0; clear C0
          have Hlt := Lib.hid (Globe.asc_lt Bz); clear Bz
          obtain ⟨N, hN⟩ : ∃ N, (Globe.cellsTo (Globe.leftL l (x.2.2.map (Globe.sureAt (ss.map fun s => s.1)))) 24).length = N := ⟨_, rfl⟩
          have HN := Lib.hid hN
          have hq : Globe.enough l (ss.map fun s => s.1) x.2.2 = decide (N = 0) := by unfold Globe.enough; rw [hN]
          have Hq := Lib.hid hq; clear hq hN
          have m1 : Fence.wide.depth.isSome = true → 1 ≤ m0 := wide_depth
          by_cases hz : N = 0
          · subst hz
            gi_wp2_with (first
              | (refine ⟨trivial, wide_depth, ?_⟩; gi_at_call 66; refine (CallsIn.inRound l0 (callsIn_wide.2 (foldN_v _ k c _ Hxi.out (Ext.refl _) Hlt.out Bx HL.out hE H.out hE Hok.out cT))).mono ?_; rintro e w5 ⟨B5, o5, k5, rfl, Bj, C2, Ba⟩; have Bc := Ba.cellE; have Bf := Ba.frozenE; have Bh := Ba.size; have C3 := alloc_keeps w5; (try simp only [World.size_alloc] at Bc Bf Bh); (try simp only [World.size_setCell] at Bc Bf Bh); (try simp only [World.size_drew] at Bc Bf Bh); have Bp := Lib.hid Bj; clear Bj)
              | (refine ⟨trivial, wide_depth, ?_⟩; gi_at_call 68; refine (CallsIn.inRound l0 (callsIn_wide.2 (Count_r k5 _ Bp.out (by (repeat' (first | (with_reducible assumption) | (with_reducible exact Ext.refl _) | (with_reducible refine Ext.alloc ?_ _) | (with_reducible refine Ext.drew ?_) | (with_reducible refine Ext.drewN ?_ _) | (with_reducible refine Ext.setCell ?_ ?_ _) | (with_reducible refine Ext.trans ?_ (by assumption)) | go_size))) (HT.out.ext (by (repeat' (first | (with_reducible assumption) | (with_reducible exact Ext.refl _) | (with_reducible refine Ext.alloc ?_ _) | (with_reducible refine Ext.drew ?_) | (with_reducible refine Ext.drewN ?_ _) | (with_reducible refine Ext.setCell ?_ ?_ _) | (with_reducible refine Ext.trans ?_ (by assumption)) | go_size)))) HN.out))).mono ?_; rintro e w6 ⟨rfl, Bb⟩; have Be := Bb.cellE; have Bg := Bb.frozenE; have Bi := Bb.size; have C4 := alloc_keeps w6; (try simp only [World.size_alloc] at Be Bg Bi); (try simp only [World.size_setCell] at Be Bg Bi); (try simp only [World.size_drew] at Be Bg Bi)))
            have B7 : Ext V w6 := by (repeat' (first | (with_reducible assumption) | (with_reducible exact Ext.refl _) | (with_reducible refine Ext.alloc ?_ _) | (with_reducible refine Ext.drew ?_) | (with_reducible refine Ext.drewN ?_ _) | (with_reducible refine Ext.setCell ?_ ?_ _) | (with_reducible refine Ext.trans ?_ (by assumption)) | go_size))
            have b1 := BoxAt.ext B7 (show BoxAt V F 0 (.slice none 0 0) from ⟨cF, fF⟩)
            have b2 := BoxAt.ext B7 (show BoxAt V (F + 1) 0 (.bool false) from ⟨cO, fO⟩)
            refine ⟨(KeepsOthers.trans (Ext.others B7) ((KeepsOthers.setCell _ _ _).trans (KeepsOthers.setCell _ _ _))).from _, (KeepC.of_ext B7).trans ((KeepC.setCell _ (p := ⟨F, 0, none⟩) (.inl rfl) _).trans (KeepC.setCell _ (p := ⟨F + 1, 0, none⟩) (.inr rfl) _)), rfl, pre, x, rfl, Hpre.out, by rw [Hq.out]; rfl, ⟨BoxAt.other (BoxAt.set b1 _) (by show F + 1 ≠ F; omega) _, BoxAt.set (BoxAt.other b2 (by show F ≠ F + 1; omega) _) _, ?_, ?_, ?_, Hnd.out, ?_⟩, ?_⟩
            · rw [World.cell?_setCell_other _ _ _ _ (fun e => by have := congrArg Addr.block e; simp at this; omega), World.cell?_setCell_other _ _ _ _ (fun e => by have := congrArg Addr.block e; simp at this; omega)]; exact B7.cell cS
            · rw [World.cell?_setCell_other _ _ _ _ (fun e => by have := congrArg Addr.block e; simp at this; omega), World.cell?_setCell_other _ _ _ _ (fun e => by have := congrArg Addr.block e; simp at this; omega)]; exact B7.cell cT
            · exact Ext.setCell (Ext.setCell (hE.trans B7) (p := ⟨F, 0, none⟩) (by show _ ≤ F; omega) _) (p := ⟨F + 1, 0, none⟩) (by show _ ≤ F + 1; omega) _
            · intro D hD
              obtain ⟨q1, q2⟩ := HDV.out D hD
              refine ⟨q1, ?_⟩
              rw [Below.heap_setCell _ _ _ D (ne_of_mark q2 cO), Below.heap_setCell _ _ _ D (ne_of_mark q2 cF)]
              exact (Below.block B7 D (Array.getElem?_eq_some_iff.1 q2).1).trans q2
            · exact ints_other (ints_other (Hxi.out.ext B7) (p := ⟨F, 0, none⟩) (fun ad e hl hf => ints_not Hxi.out Bu.out e hl (by rw [hf]; exact cF) (by intro z h; cases h)) _) (p := ⟨F + 1, 0, none⟩) (fun ad e hl hf => ints_not Hxi.out Bu.out e hl (by rw [hf]; exact cO) (by intro z h; cases h)) _
          · have hzi : ¬ (N : Int) = 0 := by omega
            gi_wp2_with (first
              | (refine ⟨trivial, wide_depth, ?_⟩; gi_at_call 66; refine (CallsIn.inRound l0 (callsIn_wide.2 (foldN_v _ k c _ Hxi.out (Ext.refl _) Hlt.out Bx HL.out hE H.out hE Hok.out cT))).mono ?_; rintro e w5 ⟨B5, o5, k5, rfl, Bj, C2, Ba⟩; have Bc := Ba.cellE; have Bf := Ba.frozenE; have Bh := Ba.size; have C3 := alloc_keeps w5; (try simp only [World.size_alloc] at Bc Bf Bh); (try simp only [World.size_setCell] at Bc Bf Bh); (try simp only [World.size_drew] at Bc Bf Bh); have Bp := Lib.hid Bj; clear Bj)
              | (refine ⟨trivial, wide_depth, ?_⟩; gi_at_call 68; refine (CallsIn.inRound l0 (callsIn_wide.2 (Count_r k5 _ Bp.out (by (repeat' (first | (with_reducible assumption) | (with_reducible exact Ext.refl _) | (with_reducible refine Ext.alloc ?_ _) | (with_reducible refine Ext.drew ?_) | (with_reducible refine Ext.drewN ?_ _) | (with_reducible refine Ext.setCell ?_ ?_ _) | (with_reducible refine Ext.trans ?_ (by assumption)) | go_size))) (HT.out.ext (by (repeat' (first | (with_reducible assumption) | (with_reducible exact Ext.refl _) | (with_reducible refine Ext.alloc ?_ _) | (with_reducible refine Ext.drew ?_) | (with_reducible refine Ext.drewN ?_ _) | (with_reducible refine Ext.setCell ?_ ?_ _) | (with_reducible refine Ext.trans ?_ (by assumption)) | go_size)))) HN.out))).mono ?_; rintro e w6 ⟨rfl, Bb⟩; have Be := Bb.cellE; have Bg := Bb.frozenE; have Bi := Bb.size; have C4 := alloc_keeps w6; (try simp only [World.size_alloc] at Be Bg Bi); (try simp only [World.size_setCell] at Be Bg Bi); (try simp only [World.size_drew] at Be Bg Bi)))
            have B7 : Ext V w6 := by (repeat' (first | (with_reducible assumption) | (with_reducible exact Ext.refl _) | (with_reducible refine Ext.alloc ?_ _) | (with_reducible refine Ext.drew ?_) | (with_reducible refine Ext.drewN ?_ _) | (with_reducible refine Ext.setCell ?_ ?_ _) | (with_reducible refine Ext.trans ?_ (by assumption)) | go_size))
            refine ⟨(Ext.others B7).from _, KeepC.of_ext B7, FewI.ext ⟨⟨cF, fF⟩, ⟨cO, fO⟩, cS, cT, hE, Hnd.out, HDV.out⟩ B7, fun y hy => ?_⟩
            rcases List.mem_append.1 hy with hy | hy
            · exact Hpre.out y hy
            · simp at hy; subst hy; rw [Hq.out]; simp [hz]
        case done =>
          rintro D xs V hD hS ⟨hI, hno⟩ hK
          have hDn : D ∉ Ds := fun h => by have := Bk.out D h; omega
          have HIV := Lib.hid hI; clear hI
          have Bq := Lib.hid (show (Globe.combs n i [] 0).find? (Globe.enough l (ss.map fun s => s.1)) = none from by
            rw [← hS, List.find?_eq_none]
            intro y hy
            rw [List.mem_map] at hy
            obtain ⟨x, hx, rfl⟩ := hy
            rw [hno x hx]; simp)
          clear hS hno
          have HKD := Lib.hid hK; clear hK
          have i3 : (i : Int) + 1 ≤ 100 := by omega
          dsimp only
          go_wp2_with fail
          obtain ⟨q1, q2, q3, q4, q5, q6, q7⟩ := HIV.out
          refine ⟨⟨i + 1, D :: Ds, frOk_lit _ rfl, rfl, by omega, fun j hj => ?_, q1, q2, q3, q4, q5, List.nodup_cons.2 ⟨hDn, q6⟩, fun D' hD' => ?_⟩, by simp [muF, intOf]; omega⟩
          · rcases Nat.lt_or_ge j i with h | h
            · exact Hno.out j h
            · rw [show j = i by omega]; exact Bq.out
          · rcases List.mem_cons.1 hD' with rfl | h
            · exact ⟨by omega, HKD.out⟩
            · exact q7 D' h
        case stop =>
          rintro D cd pre V hD hSp ⟨rfl, ys, x, rfl, hys, hx, hI, hxs⟩ hK
          have hDn : D ∉ Ds := fun h => by have := Bk.out D h; omega
          refine wpIn_wide.2 ?_
          dsimp only
          go_wp2_with fail
          have hf : Globe.fewestL (Globe.enough l (ss.map fun s => s.1)) n = some x.2.2 := Globe.fewest_eq (i := i) (by omega) Hno.out (Globe.find_prefix (q := ys.map fun x => x.2.2) (by rw [List.map_append] at hSp; exact hSp) (fun y hy => by
            rw [List.mem_map] at hy
            obtain ⟨z, hz, rfl⟩ := hy
            exact hys z hz) hx)
          obtain ⟨q1, q2, q3, q4, q5, q6, q7⟩ := hI
          refine ⟨rfl, _, D :: Ds, x.1, x.2.1, frOk_lit _ rfl, rfl, ?_, ?_⟩
          · rw [hf]
            refine ⟨q1, q2, q3, q4, q5, List.nodup_cons.2 ⟨hDn, q6⟩, fun D' hD' => ?_⟩
            rcases List.mem_cons.1 hD' with rfl | h
            · exact ⟨by omega, hK⟩
            · exact q7 D' h
          · rw [hf]; exact hxs
      · have i2 : ¬ (i : Int) < (n : Int) + 1 := by omega
        go_wp2_with fail
        have hf : Globe.fewestL (Globe.enough l (ss.map fun s => s.1)) n = none := Globe.fewest_eq_none fun j hj => Hno.out j (by omega)
        refine ⟨rfl, _, Ds, none, 0, frOk_lit _ rfl, rfl, ?_, ?_⟩
        · rw [hf]; exact ⟨⟨cF, fF⟩, ⟨cO, fO⟩, cS, cT, hE, Hnd.out, HDs.out⟩
        · rw [hf]; exact .inl rfl
  · clear bF bO Br Bt eW W
    rintro e ⟨X, ds⟩ W ⟨rfl, p, Ds, fa, fc, ⟨u, hu⟩, hds, ⟨⟨cF, fF⟩, ⟨cO, fO⟩, cS, cT, hE, hnd, hDs⟩, hints⟩
    dsimp only at hu hds
    subst hu hds
    rw [Hr.out] at cF cO hints
    rename_i K0 hK0
    show K0 _ _
    refine hK0 _ _ ?_
    clear hK0 K0
    unfold FrF
    have Hi := Lib.hid hints; clear hints
    have HD := Lib.hid hDs; clear hDs
    have Hnd := Lib.hid hnd; clear hnd
    go_wp2_with fail
    go_quiet (fail)
    go_wp2_with fail
    rw [Exit.noGoto_ret]
    refine leaves_marks w.heap.size (fun W' => IntsAt W' fa (intsN (r.getD [])) ∧ Ext w W') (fun D W' hD hP hk => ⟨hP.1.kept (grownBy_putObj' _ _ _) (fun z e => by cases e; exact ⟨_, hk, rfl⟩), Ext.shut hP.2 hD hk⟩) (fun W' hP => ?_) Ds _ Hnd.out (fun D hD => HD.out D hD) ⟨Hi.out.ext (Ext.drewN (Ext.refl _) _), Ext.drewN hE _⟩
    exact ⟨_, by simp [results, Tryz.results15, go_sem], fa, fc, rfl, hP⟩
end Go.Proofs.YtajdohcgjgknmaaGreatDoor

namespace Go.Proofs.YtajdohcgjgknmaaGreatDoor
open Go.RowKit
def UncPost (w : World) (L1 L2 : List Int) (e : Ending) (w' : World) : Prop :=
 ∃ B1 o1 k1 B2 o2 k2 : Nat, e = .returned (.tuple #[.agg #[.slice (some ⟨B1, o1, none⟩) 24 k1], .agg #[.slice (some ⟨B2, o2, none⟩) 24 k2], .int .i64 0]) ∧ VA w' B1 o1 L1 ∧ VA w' B2 o2 L2 ∧ w.heap.size ≤ B1 ∧ w.heap.size ≤ B2 ∧ Ext w w'
set_option maxHeartbeats 4000000 in
theorem Uncovered_v {w1 w2 : World} {a : Option Addr} {n : Nat} {ss : List (List Int × List Int)} {b o : Nat} (c k : Nat) {l : List Int} (w : World) (hl : VA w1 b o l) (e1 : Ext w1 w) (h : StripsAt w2 a n ss) (e2 : Ext w2 w) (hok : Globe.stripsOk ss = true) :
  Calls Tryz.prog 12 #[.agg #[.slice (some ⟨b, o, none⟩) 24 k], .slice a n c] w (UncPost w (Globe.leftL l (ss.map fun s => s.2)) (Globe.leftL l (ss.map fun s => s.1))) := by
 have H := Lib.hid (h.ext e2)
 have HL := Lib.hid (hl.ext e1)
 have hbl := HL.out.lt
 clear h hl e1 e2
 have Hok := Lib.hid hok; clear hok
 go_enter Tryz.func12, Tryz.ntmps12
 go_wp2_with fail
 refine (Valid_e k _ HL.out.aa (by (repeat' (first | (with_reducible assumption) | (with_reducible exact Ext.refl _) | (with_reducible refine Ext.alloc ?_ _) | (with_reducible refine Ext.drew ?_) | (with_reducible refine Ext.drewN ?_ _) | (with_reducible refine Ext.setCell ?_ ?_ _) | (with_reducible refine Ext.trans ?_ (by assumption)) | go_size)))).mono ?_
 rintro e w1 ⟨rfl, hb⟩
 have hc := hb.cellE; have hf := hb.frozenE; have hz := hb.size; have ha := alloc_keeps w1; (try simp only [World.size_alloc] at hc hf hz); (try simp only [World.size_setCell] at hc hf hz); (try simp only [World.size_drew] at hc hf hz)
 go_wp2_with fail
 refine (ValidS_r c _ H.out (by (repeat' (first | (with_reducible assumption) | (with_reducible exact Ext.refl _) | (with_reducible refine Ext.alloc ?_ _) | (with_reducible refine Ext.drew ?_) | (with_reducible refine Ext.drewN ?_ _) | (with_reducible refine Ext.setCell ?_ ?_ _) | (with_reducible refine Ext.trans ?_ (by assumption)) | go_size))) Hok.out).mono ?_
 rintro e w2 ⟨rfl, hb⟩
 have hc := hb.cellE; have hf := hb.frozenE; have hz := hb.size; have ha := alloc_keeps w2; (try simp only [World.size_alloc] at hc hf hz); (try simp only [World.size_setCell] at hc hf hz); (try simp only [World.size_drew] at hc hf hz)
 go_wp2_with fail
 refine (copied_v k _ HL.out (by (repeat' (first | (with_reducible assumption) | (with_reducible exact Ext.refl _) | (with_reducible refine Ext.alloc ?_ _) | (with_reducible refine Ext.drew ?_) | (with_reducible refine Ext.drewN ?_ _) | (with_reducible refine Ext.setCell ?_ ?_ _) | (with_reducible refine Ext.trans ?_ (by assumption)) | go_size)))).mono ?_
 rintro e w3 ⟨B3, k3, rfl, Bh, Bk, hb⟩
 have hc := hb.cellE; have hf := hb.frozenE; have hz := hb.size; have ha := alloc_keeps w3; (try simp only [World.size_alloc] at hc hf hz); (try simp only [World.size_setCell] at hc hf hz); (try simp only [World.size_drew] at hc hf hz)
 go_wp2_with fail
 refine (foldU1_v c k3 _ H.out (by (repeat' (first | (with_reducible assumption) | (with_reducible exact Ext.refl _) | (with_reducible refine Ext.alloc ?_ _) | (with_reducible refine Ext.drew ?_) | (with_reducible refine Ext.drewN ?_ _) | (with_reducible refine Ext.setCell ?_ ?_ _) | (with_reducible refine Ext.trans ?_ (by assumption)) | go_size))) Hok.out Bk (by (repeat' (first | (with_reducible assumption) | (with_reducible exact Ext.refl _) | (with_reducible refine Ext.alloc ?_ _) | (with_reducible refine Ext.drew ?_) | (with_reducible refine Ext.drewN ?_ _) | (with_reducible refine Ext.setCell ?_ ?_ _) | (with_reducible refine Ext.trans ?_ (by assumption)) | go_size)))).mono ?_
 rintro e w4 ⟨B4, o4, k4, rfl, Bm, Br, hb⟩
 have hc := hb.cellE; have hf := hb.frozenE; have hz := hb.size; have ha := alloc_keeps w4; (try simp only [World.size_alloc] at hc hf hz); (try simp only [World.size_setCell] at hc hf hz); (try simp only [World.size_drew] at hc hf hz)
 go_wp2_with fail
 have c7 : ∀ X, Ext (w4.alloc (.cells #[.slice (some ⟨B4, o4, none⟩) 24 k4] 33)) X → X.cell? ⟨w4.heap.size, 0, none⟩ = some (.slice (some ⟨B4, o4, none⟩) 24 k4) := fun X hX => hX.cell (by simp [go_sem])
 have C7 := Lib.hid c7; clear c7
 refine (copied_v k _ HL.out (by (repeat' (first | (with_reducible assumption) | (with_reducible exact Ext.refl _) | (with_reducible refine Ext.alloc ?_ _) | (with_reducible refine Ext.drew ?_) | (with_reducible refine Ext.drewN ?_ _) | (with_reducible refine Ext.setCell ?_ ?_ _) | (with_reducible refine Ext.trans ?_ (by assumption)) | go_size)))).mono ?_
 rintro e w5 ⟨B5, k5, rfl, Bi, Bp, hb⟩
 have hc := hb.cellE; have hf := hb.frozenE; have hz := hb.size; have ha := alloc_keeps w5; (try simp only [World.size_alloc] at hc hf hz); (try simp only [World.size_setCell] at hc hf hz); (try simp only [World.size_drew] at hc hf hz)
 go_wp2_with fail
 refine (foldU2_v c k5 _ H.out (by (repeat' (first | (with_reducible assumption) | (with_reducible exact Ext.refl _) | (with_reducible refine Ext.alloc ?_ _) | (with_reducible refine Ext.drew ?_) | (with_reducible refine Ext.drewN ?_ _) | (with_reducible refine Ext.setCell ?_ ?_ _) | (with_reducible refine Ext.trans ?_ (by assumption)) | go_size))) Hok.out Bp (by (repeat' (first | (with_reducible assumption) | (with_reducible exact Ext.refl _) | (with_reducible refine Ext.alloc ?_ _) | (with_reducible refine Ext.drew ?_) | (with_reducible refine Ext.drewN ?_ _) | (with_reducible refine Ext.setCell ?_ ?_ _) | (with_reducible refine Ext.trans ?_ (by assumption)) | go_size)))).mono ?_
 rintro e w6 ⟨B6, o6, k6, rfl, Bq, Bt, hb⟩
 have hc := hb.cellE; have hf := hb.frozenE; have hz := hb.size; have ha := alloc_keeps w6; (try simp only [World.size_alloc] at hc hf hz); (try simp only [World.size_setCell] at hc hf hz); (try simp only [World.size_drew] at hc hf hz)
 go_wp2_with fail
 have q1 := BoxAt.ext (b := w.heap.size + 1) (o := 0) (v := .slice none 0 0) (show Ext _ w1 by with_reducible assumption) ⟨by simp [go_sem], by simp [go_sem]⟩
 have q2 := BoxAt.ext (b := w.heap.size + 1 + 1) (o := 0) (v := .slice none 0 0) (show Ext _ w1 by with_reducible assumption) ⟨by simp [go_sem], by simp [go_sem]⟩
 have hEw : Ext w w1 := by (repeat' (first | (with_reducible assumption) | (with_reducible exact Ext.refl _) | (with_reducible refine Ext.alloc ?_ _) | (with_reducible refine Ext.drew ?_) | (with_reducible refine Ext.drewN ?_ _) | (with_reducible refine Ext.setCell ?_ ?_ _) | (with_reducible refine Ext.trans ?_ (by assumption)) | go_size))
 have Bf : Ext w1 w3 := by (repeat' (first | (with_reducible assumption) | (with_reducible exact Ext.refl _) | (with_reducible refine Ext.alloc ?_ _) | (with_reducible refine Ext.drew ?_) | (with_reducible refine Ext.drewN ?_ _) | (with_reducible refine Ext.setCell ?_ ?_ _) | (with_reducible refine Ext.trans ?_ (by assumption)) | go_size))
 have Bg : Ext w3 w4 := by (repeat' (first | (with_reducible assumption) | (with_reducible exact Ext.refl _) | (with_reducible refine Ext.alloc ?_ _) | (with_reducible refine Ext.drew ?_) | (with_reducible refine Ext.drewN ?_ _) | (with_reducible refine Ext.setCell ?_ ?_ _) | (with_reducible refine Ext.trans ?_ (by assumption)) | go_size))
 have Ba : Ext w5 w6 := by (repeat' (first | (with_reducible assumption) | (with_reducible exact Ext.refl _) | (with_reducible refine Ext.alloc ?_ _) | (with_reducible refine Ext.drew ?_) | (with_reducible refine Ext.drewN ?_ _) | (with_reducible refine Ext.setCell ?_ ?_ _) | (with_reducible refine Ext.trans ?_ (by assumption)) | go_size))
 have B7 : Ext (w4.alloc (.cells #[.slice (some ⟨B4, o4, none⟩) 24 k4] 33)) w5 := by with_reducible assumption
 have Bj : Ext w4 w6 := (Ext.alloc (Ext.refl w4) _).trans (B7.trans Ba)
 have C0 := q2.lt
 have C1 := Bf.size; have C2 := Bg.size
 have C3 : w4.heap.size + 1 ≤ w5.heap.size := by have := B7.size; simp at this; omega
 have C4 : w5.heap.size ≤ w6.heap.size := Ba.size
 simp only [World.size_alloc] at Bh Bi
 have Bb : B4 ≠ w.heap.size + 1 ∧ B4 ≠ w.heap.size + 1 + 1 := by omega
 have Be : w.heap.size ≤ B4 ∧ w.heap.size ≤ B6 := by omega
 have Bc : B6 ≠ w.heap.size + 1 ∧ B6 ≠ w.heap.size + 1 + 1 := by omega
 refine wp_name (fun V => Ext w V ∧ V.cell? ⟨w4.heap.size, 0, none⟩ = some (.slice (some ⟨B4, o4, none⟩) 24 k4) ∧ V.cell? ⟨w6.heap.size, 0, none⟩ = some (.slice (some ⟨B6, o6, none⟩) 24 k6) ∧ BoxAt V (w.heap.size + 1) 0 (.slice none 0 0) ∧ BoxAt V (w.heap.size + 1 + 1) 0 (.slice none 0 0) ∧ VA V B4 o4 (Globe.leftL l (ss.map fun s => s.2)) ∧ VA V B6 o6 (Globe.leftL l (ss.map fun s => s.1)))
  ⟨hEw.trans (Bf.trans (Bg.trans (Ext.alloc Bj _))), C7.out _ (Ext.alloc (B7.trans Ba) _), by simp [go_sem], q1.ext (by (repeat' (first | (with_reducible assumption) | (with_reducible exact Ext.refl _) | (with_reducible refine Ext.alloc ?_ _) | (with_reducible refine Ext.drew ?_) | (with_reducible refine Ext.drewN ?_ _) | (with_reducible refine Ext.setCell ?_ ?_ _) | (with_reducible refine Ext.trans ?_ (by assumption)) | go_size))), q2.ext (by (repeat' (first | (with_reducible assumption) | (with_reducible exact Ext.refl _) | (with_reducible refine Ext.alloc ?_ _) | (with_reducible refine Ext.drew ?_) | (with_reducible refine Ext.drewN ?_ _) | (with_reducible refine Ext.setCell ?_ ?_ _) | (with_reducible refine Ext.trans ?_ (by assumption)) | go_size))), Bm.ext (by (repeat' (first | (with_reducible assumption) | (with_reducible exact Ext.refl _) | (with_reducible refine Ext.alloc ?_ _) | (with_reducible refine Ext.drew ?_) | (with_reducible refine Ext.drewN ?_ _) | (with_reducible refine Ext.setCell ?_ ?_ _) | (with_reducible refine Ext.trans ?_ (by assumption)) | go_size))), Bq.ext (by (repeat' (first | (with_reducible assumption) | (with_reducible exact Ext.refl _) | (with_reducible refine Ext.alloc ?_ _) | (with_reducible refine Ext.drew ?_) | (with_reducible refine Ext.drewN ?_ _) | (with_reducible refine Ext.setCell ?_ ?_ _) | (with_reducible refine Ext.trans ?_ (by assumption)) | go_size)))⟩ ?_
 clear q1 q2 hEw Bf Bg Bj B7 Ba Bk Bm Bp Bq Bh Br Bi Bt C7 hb hc hf hz ha
 iterate 5 clear hb hc hf hz ha
 rintro V ⟨hE, c7, c8, ⟨c4, f4⟩, ⟨c5, f5⟩, v4, v6⟩
 have l4 := World.block_lt_of_cell? V _ c4
 have l5 := World.block_lt_of_cell? V _ c5
 have l7 := World.block_lt_of_cell? V _ c7
 have l8 := World.block_lt_of_cell? V _ c8
 have hX : ∀ v1 v2, Ext w (((V.drew).setCell ⟨w.heap.size + 1, 0, none⟩ v1).setCell ⟨w.heap.size + 1 + 1, 0, none⟩ v2) := fun v1 v2 => Ext.setCell (Ext.setCell (Ext.drew hE) (p := ⟨w.heap.size + 1, 0, none⟩) (by show _ ≤ w.heap.size + 1; omega) _) (p := ⟨w.heap.size + 1 + 1, 0, none⟩) (by show _ ≤ w.heap.size + 1 + 1; omega) _
 have HX := Lib.hid hX; clear hX hE
 have hY : ∀ v1 v2, VA (((V.drew).setCell ⟨w.heap.size + 1, 0, none⟩ v1).setCell ⟨w.heap.size + 1 + 1, 0, none⟩ v2) B4 o4 (Globe.leftL l (ss.map fun s => s.2)) ∧ VA (((V.drew).setCell ⟨w.heap.size + 1, 0, none⟩ v1).setCell ⟨w.heap.size + 1 + 1, 0, none⟩ v2) B6 o6 (Globe.leftL l (ss.map fun s => s.1)) := fun v1 v2 => ⟨VA.other (VA.other (v4.ext (Ext.drew (Ext.refl _))) (p := ⟨w.heap.size + 1, 0, none⟩) Bb.1.symm _) (p := ⟨w.heap.size + 1 + 1, 0, none⟩) Bb.2.symm _, VA.other (VA.other (v6.ext (Ext.drew (Ext.refl _))) (p := ⟨w.heap.size + 1, 0, none⟩) Bc.1.symm _) (p := ⟨w.heap.size + 1 + 1, 0, none⟩) Bc.2.symm _⟩
 have HY := Lib.hid hY; clear hY v4 v6 Bb Bc
 -- <<unc
 refine wg_begin [(some 27, [7], []), (some 28, [8], []), (none, [4, 27], [0, 0]), (none, [5, 28], [1, 2, 0, 1, 2]), (some 6, [], [3, 0, 1, 2, 3])] (fun w' => w'.cell? ⟨w4.heap.size, 0, none⟩ = some (.slice (some ⟨B4, o4, none⟩) 24 k4) ∧ w'.cell? ⟨w6.heap.size, 0, none⟩ = some (.slice (some ⟨B6, o6, none⟩) 24 k6)) (by kernel_rfl) (by kernel_rfl) (by kernel_rfl) (by kernel_rfl) (by intro c d v a w h; cases d <;> first | exact h | (exact nomatch h.1) | (dsimp +zetaDelta only [Exit.then, Exit.inBlock] at h ⊢; exact h)) (⟨c7, c8⟩) (fun ops Q L hL hR hK hHeld => ?_); replace hL := Lib.hid hL; have Bu := @evalW_tmp; have Bv := @evalW_const; have Bw := @evalW_func; have Bx := @look_cons; have Bz := @look_nil
 have r7 := wg_read hL.out 7 rfl
 have r8 := wg_read hL.out 8 rfl
 have r4 := wg_read hL.out 4 rfl
 have r5 := wg_read hL.out 5 rfl
 (refine wg_take 0 (v := ?_) hR rfl (by kernel_rfl) (by kernel_rfl) ?_ (by with_reducible assumption) ?_; rotate_left; (focus (intro w hSw; (try dsimp only at hSw); go_simp; (try with_reducible rfl))); (dsimp only [putW]))
 (refine wg_take 1 (v := ?_) hR rfl (by kernel_rfl) (by kernel_rfl) ?_ (by with_reducible assumption) ?_; rotate_left; (focus (intro w hSw; (try dsimp only at hSw); go_simp; (try with_reducible rfl))); (dsimp only [putW]))
 (refine wg_step 2 hR rfl (by kernel_rfl) (by kernel_rfl) ?_ (by kernel_rfl); refine wg_skp (w' := ?_) ?_ ?_ ?_; rotate_left; (focus (go_simp; first | done | (with_reducible rfl))); (focus (exact ⟨by simp [go_sem, c7], by simp [go_sem, c8]⟩)); intro hHeld; (dsimp only [putW]))
 (refine wg_step 3 hR rfl (by kernel_rfl) (by kernel_rfl) ?_ (by kernel_rfl); refine wg_skp (w' := ?_) ?_ ?_ ?_; rotate_left; (focus (go_simp; first | done | (with_reducible rfl))); (focus (exact ⟨by simp [go_sem, c7], by simp [go_sem, c8]⟩)); intro hHeld; (dsimp only [putW]))
 (refine wg_take 4 (v := ?_) hR rfl (by kernel_rfl) (by kernel_rfl) ?_ (by with_reducible assumption) ?_; rotate_left; (focus (intro w hSw; (try dsimp only at hSw); go_simp; (try with_reducible rfl))); (dsimp only [putW]))
 refine wg_fin hR hK [(6, 0), (20, 2), (0, 1)] (by kernel_rfl) (by kernel_rfl) (by dsimp only [mg, gsOf, valAt]) ?_; clear Bu Bv Bw Bx Bz hR hK hL
 clear r7; clear r8; clear r4; clear r5
 -- >>
 go_wp2_with fail
 refine bodyPost_ret (v := .tuple #[.agg #[.slice (some ⟨B4, o4, none⟩) 24 k4], .agg #[.slice (some ⟨B6, o6, none⟩) 24 k6], .int .i64 0]) (by simp [results, Tryz.results12, go_sem, c4, c5]) rfl ⟨B4, o4, k4, B6, o6, k6, rfl, (HY.out _ _).1, (HY.out _ _).2, Be.1, Be.2, HX.out _ _⟩
end Go.Proofs.YtajdohcgjgknmaaGreatDoor

namespace Go.Proofs.YtajdohcgjgknmaaGreatDoor
open Go.ChangeShapes Go.WideShapes Go.ChangeAt Go.RowKit
theorem own : ownKnob Tryz.prog.godebug = none := by kernel_rfl
theorem laidOut : laidOutB Tryz.prog = true := by kernel_rfl
def laidTabs : List (String × DataW Unit) := [("math/bits.deBruijn32tab", Rows.laid_math_bits_deBruijn32tab), ("math/bits.deBruijn64tab", Rows.laid_math_bits_deBruijn64tab)]
theorem gTab : Tryz.prog.globalNamed "math/bits.deBruijn64tab" = some 1 := by kernel_rfl
theorem tTab : (Tryz.prog.globals[1]?).map (·.type) = some 171 := by kernel_rfl
theorem door_met (os : Os) (args : Array Value) : laidMetH Tryz.prog laidTabs ((World.doorLaid Tryz.prog 19 os).forCall (fun _ _ => 0) ⟨#[], args, []⟩).memory :=
 laidMetH_of_parts3 (fuel := 8) (laidMet_of_run' 8 (by kernel_rfl) (by kernel_rfl)) (by kernel_rfl) (by kernel_rfl)
theorem tab_of_laid {W : World} (h : laidMetH Tryz.prog laidTabs W) : Tab W := by
 rw [MakeChecks.laidMetH_plain _ _ _ (by kernel_rfl)] at h
 have h2 : laidMet Tryz.prog [("math/bits.deBruijn64tab", Lib.tabData .u8 (Lib.deBruijn64tab.map Int.ofNat))] W := laidMet.tail h
 have ht := Lib.tabIs_of_head gTab tTab Tryz.underlying171 Tryz.underlying5 (by kernel_rfl) (by kernel_rfl) h2
 have hc : ∀ j, j < 64 → W.cell? ⟨1, j, none⟩ = some (.int .u8 (Lib.deBruijn64tab.getD j 0)) := fun j hj => by
  have := Lib.TabIs.cell ht gTab j (by rw [List.length_map]; exact hj)
  rw [this]
  simp [List.getD_eq_getElem?_getD, List.getElem?_map]
  rw [List.getElem?_eq_getElem (show j < Lib.deBruijn64tab.length from hj)]
  rfl
 exact ⟨World.block_lt_of_cell? W _ (hc 0 (by decide)), hc⟩
theorem isI_of_wf {n : Int} (h : (Lit.int .i64 n).wf = true) : IsI n := by
 simp [Lit.wf, IntKind.min, IntKind.max, IntKind.signed, IntKind.bits] at h
 exact ⟨by omega, by omega⟩
end Go.Proofs.YtajdohcgjgknmaaGreatDoor

namespace Go.Proofs.YtajdohcgjgknmaaGreatDoor
open Go.ChangeShapes Go.WideShapes Go.ChangeAt Go.RowKit Go.Deep
section
variable {H : Type} {enc : TypeId × Value → H} {W : World}
theorem ints_of_array {spare : Nat → Bool} {held : Bool} {t : TypeId} {k fuel : Nat} {cs : List Value} {x : DataW H × List MemPlace} (ht : Tryz.prog.underlying t = some (.array k 3)) (h : DataW.trod enc Tryz.prog W 0 spare held fuel t cs = some x) (hc : cs.length = k) :
  ∃ q : Nat → Int, ∀ j, j < k → cs[j]? = some (.int .i64 (q j)) ∧ IsI (q j) := by
 obtain ⟨xs, m, rfl, hx, hlen, hxl, hg⟩ := DataW.trod_array ht h
 have hone : Tryz.prog.cellsOf 3 = 1 := by kernel_rfl
 have each : ∀ j, j < k → ∃ n : Int, cs[j]? = some (.int .i64 n) ∧ IsI n := fun j hj => by
  have h1 := hg j hj
  rw [hone, Nat.mul_one] at h1
  have hx : xs[j]? = some (xs[j]'(by omega)) := List.getElem?_eq_getElem (by omega)
  rw [hx] at h1
  obtain ⟨n, hn, _, hw⟩ := DataW.trod_int Tryz.underlying3 h1
  have hcj : cs[j]? = some (.int .i64 n) := by
   have e : ((cs.drop j).take 1)[0]? = some (.int .i64 n) := by rw [hn]; rfl
   rw [List.getElem?_take_of_lt (by omega), List.getElem?_drop, Nat.add_zero] at e
   exact e
  exact ⟨n, hcj, isI_of_wf hw⟩
 obtain ⟨q, hq⟩ := choose_lt each
 exact ⟨q, hq⟩
end
def Quads (w : World) (v : Value) : Prop := ∃ (a : Option Addr) (n c : Nat) (q : Nat → Nat → Int), v = .slice a n c ∧ n ≤ c ∧ c ≤ 9223372036854775807 ∧ (a = none → c = 0) ∧ QAt w a n q
section
variable {H : Type} {enc : TypeId × Value → H} {W : World}
set_option maxRecDepth 100000 in
theorem open_quads {b0 : Nat} {v : Value} {d : DataW H} {p : List MemPlace} (hval : Value.okWide Tryz.prog W .any b0 23 v) (h : DataW.Trod enc Tryz.prog W 0 (fun _ => true) true 23 v d p) : Quads W v := by
  obtain ⟨a, n, c, rfl⟩ := okWide_slice Tryz.underlying23 hval
  obtain ⟨fuel, hf⟩ := h
  rcases open_slice Tryz.underlying23 hf with ⟨hcs, _⟩ | ⟨a', len, cap, m, k, D, Pl, hcs, hb, hl, hm, hmm, _, hx⟩
  · simp [Value.cells] at hcs
    obtain ⟨rfl, rfl, rfl⟩ := hcs
    exact ⟨none, 0, 0, fun _ _ => 0, rfl, by omega, by omega, fun _ => rfl, .inl rfl⟩
  · simp [Value.cells] at hcs
    obtain ⟨rfl, rfl, rfl⟩ := hcs
    unfold maxLen at hm
    rcases Nat.eq_zero_or_pos n with h0 | h0
    · exact ⟨_, _, _, fun _ _ => 0, rfl, by omega, by omega, (fun e => by cases e), .inl h0⟩
    · have h4 : Tryz.prog.cellsOf 36 = 4 := by kernel_rfl
      rw [h4] at hx
      simp only [if_true] at hmm
      subst hmm
      have each : ∀ i, i < n → ∃ q : Nat → Int, ∀ j, j < 4 → W.cell? (a'.add (i * 4 + j)) = some (.int .i64 (q j)) ∧ IsI (q j) := fun i hi => by
        obtain ⟨cs', hc1, hc2⟩ := hx i (by omega)
        obtain ⟨_, hcl, hat⟩ := World.cells?_some hc1
        obtain ⟨q, hq⟩ := ints_of_array Tryz.underlying36 hc2 hcl
        refine ⟨q, fun j hj => ⟨?_, (hq j hj).2⟩⟩
        rw [← Go.Deep.add_add, hat j hj]
        exact (hq j hj).1
      obtain ⟨q, hq⟩ := choose_lt each
      obtain ⟨b, off, spot⟩ := a'
      have hspot : spot = none := by have := World.cell?_spot (hq 0 h0 0 (by omega)).1; simpa [Addr.add] using this
      subst hspot
      refine ⟨_, _, _, q, rfl, by omega, by omega, (fun e => by cases e), .inr ⟨b, off, rfl, fun i hi j hj => ?_⟩⟩
      have := hq i hi j hj
      rw [add_plain, ← Nat.add_assoc] at this
      exact this
end
end Go.Proofs.YtajdohcgjgknmaaGreatDoor

namespace Go.Proofs.YtajdohcgjgknmaaGreatDoor
open Go.RowKit
theorem RawsAt.take {w : World} {a : Option Addr} {n : Nat} {rs : List RawPc} (h : RawsAt w a n rs) {k : Nat} (hk : k ≤ n) : RawsAt w a k (rs.take k) := by
  obtain ⟨h1, h2, h3⟩ := h
  refine ⟨by rw [List.length_take]; omega, by omega, ?_⟩
  rcases h3 with h3 | ⟨b, o, ha, hx⟩
  · exact .inl (by omega)
  · refine .inr ⟨b, o, ha, fun i x hi => hx i x ?_⟩
    rw [List.getElem?_take] at hi
    split at hi
    · exact hi
    · cases hi
theorem RawsAt.drop {w : World} {a : Option Addr} {n : Nat} {rs : List RawPc} (h : RawsAt w a n rs) {k c : Nat} (hk : k ≤ n) (hc : n ≤ c) : RawsAt w (if c = k then a else a.map (fun x => x.add (k * 4))) (n - k) (rs.drop k) := by
  obtain ⟨h1, h2, h3⟩ := h
  refine ⟨by rw [List.length_drop, h1], by omega, ?_⟩
  by_cases h0 : n = k
  · exact .inl (by omega)
  · rcases h3 with h3 | ⟨b, o, rfl, hx⟩
    · exact .inl (by omega)
    · rw [if_neg (by omega)]
      refine .inr ⟨b, o + k * 4, by rw [Option.map_some, Addr.add_mid], fun i x hi => ?_⟩
      rw [List.getElem?_drop] at hi
      have := hx (k + i) x hi
      rwa [show o + (k + i) * 4 = o + k * 4 + i * 4 by rw [Nat.add_mul]; omega] at this
theorem Reads.take {w : World} {rs : List RawPc} {l : List Prod.Pc} (h : Reads w rs l) (k : Nat) : Reads w (rs.take k) (l.take k) := by
  have e := h.len
  refine Reads.of_at (by rw [List.length_take, List.length_take, e]) fun i x p hx hp => ?_
  rw [List.getElem?_take] at hx hp
  split at hx
  · rename_i hi
    rw [if_pos hi] at hp
    obtain ⟨q, hq, hr⟩ := h.at hx
    rw [hp] at hq; cases hq; exact hr
  · cases hx
theorem Reads.drop {w : World} {rs : List RawPc} {l : List Prod.Pc} (h : Reads w rs l) (k : Nat) : Reads w (rs.drop k) (l.drop k) := by
 have e := h.len
 refine Reads.of_at (by rw [List.length_drop, List.length_drop, e]) fun i x p hx hp => ?_
 rw [List.getElem?_drop] at hx hp
 obtain ⟨q, hq, hr⟩ := h.at hx
 rw [hp] at hq; cases hq; exact hr
theorem PcsAt.drop {w : World} {a : Option Addr} {n : Nat} {l : List Prod.Pc} (h : PcsAt w a n l) {k c : Nat} (hk : k ≤ n) (hc : n ≤ c) : PcsAt w (if c = k then a else a.map (fun x => x.add (k * 4))) (n - k) (l.drop k) := by
 obtain ⟨rs, h1, h2⟩ := h; exact ⟨_, h1.drop hk hc, h2.drop k⟩
end Go.Proofs.YtajdohcgjgknmaaGreatDoor

namespace Go.Proofs.YtajdohcgjgknmaaGreatDoor
open Go.ChangeShapes Go.WideShapes Go.ChangeAt Go.RowKit Go.Deep
def Seven (v : Value) : Prop := ∃ x0 x1 x2 x3 x4 x5 x6 : Int, v = .agg #[.int .i64 x0, .int .i64 x1, .int .i64 x2, .int .i64 x3, .int .i64 x4, .int .i64 x5, .int .i64 x6] ∧ IsI x0 ∧ IsI x1 ∧ IsI x2 ∧ IsI x3 ∧ IsI x4 ∧ IsI x5 ∧ IsI x6
def IntAt (w : World) (a : Option Addr) (n : Nat) (q : Nat → Int) : Prop := n = 0 ∨ ∃ b off, a = some ⟨b, off, none⟩ ∧ ∀ i, i < n → w.cell? ⟨b, off + i, none⟩ = some (.int .i64 (q i)) ∧ IsI (q i)
def Ints1 (w : World) (v : Value) : Prop := ∃ (a : Option Addr) (n c : Nat) (q : Nat → Int), v = .slice a n c ∧ n ≤ c ∧ c ≤ 9223372036854775807 ∧ IntAt w a n q
section
variable {H : Type} {enc : TypeId × Value → H} {W : World}
set_option maxRecDepth 100000 in
theorem open_seven {b0 : Nat} {v : Value} {d : DataW H} {p : List MemPlace} (hval : Value.okWide Tryz.prog W .any b0 22 v) (h : DataW.Trod enc Tryz.prog W 0 (fun _ => true) true 22 v d p) : Seven v := by
 have hu := Tryz.underlying22
 simp only [Value.okWide, hu] at hval
 obtain ⟨cs, rfl, hsz, _⟩ := hval
 have h2 : Tryz.prog.cellsOf 22 = 7 := by kernel_rfl
 obtain ⟨fuel, hf⟩ := h
 have hl : cs.toList.length = 7 := by rw [Array.length_toList, hsz, h2]
 obtain ⟨q, hq⟩ := ints_of_array hu hf (by simpa [Value.cells] using hl)
 obtain ⟨l⟩ := cs
 match l, hl with
 | [x0, x1, x2, x3, x4, x5, x6], _ =>
  have e0 := hq 0 (by omega)
  have e1 := hq 1 (by omega)
  have e2 := hq 2 (by omega)
  have e3 := hq 3 (by omega)
  have e4 := hq 4 (by omega)
  have e5 := hq 5 (by omega)
  have e6 := hq 6 (by omega)
  simp [Value.cells] at e0 e1 e2 e3 e4 e5 e6
  exact ⟨q 0, q 1, q 2, q 3, q 4, q 5, q 6, by rw [e0.1, e1.1, e2.1, e3.1, e4.1, e5.1, e6.1], e0.2, e1.2, e2.2, e3.2, e4.2, e5.2, e6.2⟩
set_option maxRecDepth 100000 in
theorem open_ints {b0 : Nat} {v : Value} {d : DataW H} {p : List MemPlace} (hval : Value.okWide Tryz.prog W .any b0 24 v) (h : DataW.Trod enc Tryz.prog W 0 (fun _ => true) true 24 v d p) : Ints1 W v := by
  obtain ⟨a, n, c, rfl⟩ := okWide_slice Tryz.underlying24 hval
  obtain ⟨fuel, hf⟩ := h
  rcases open_slice Tryz.underlying24 hf with ⟨hcs, _⟩ | ⟨a', len, cap, m, k, D, Pl, hcs, hb, hl, hm, hmm, _, hx⟩
  · simp [Value.cells] at hcs
    obtain ⟨rfl, rfl, rfl⟩ := hcs
    exact ⟨none, 0, 0, fun _ => 0, rfl, by omega, by omega, .inl rfl⟩
  · simp [Value.cells] at hcs
    obtain ⟨rfl, rfl, rfl⟩ := hcs
    unfold maxLen at hm
    rcases Nat.eq_zero_or_pos n with h0 | h0
    · exact ⟨_, _, _, fun _ => 0, rfl, by omega, by omega, .inl h0⟩
    · have h4 : Tryz.prog.cellsOf 3 = 1 := by kernel_rfl
      rw [h4] at hx
      simp only [if_true] at hmm
      subst hmm
      have each : ∀ i, i < n → ∃ z : Int, W.cell? (a'.add (i * 1)) = some (.int .i64 z) ∧ IsI z := fun i hi => by
        obtain ⟨cs', hc1, hc2⟩ := hx i (by omega)
        obtain ⟨_, hcl, hat⟩ := World.cells?_some hc1
        obtain ⟨z, hz, _, hw⟩ := DataW.trod_int Tryz.underlying3 hc2
        refine ⟨z, ?_, isI_of_wf hw⟩
        have := hat 0 (by omega)
        rw [hz] at this
        simpa [Addr.add] using this
      obtain ⟨q, hq⟩ := choose_lt each
      obtain ⟨b, off, spot⟩ := a'
      have hspot : spot = none := by have := World.cell?_spot (hq 0 h0).1; simpa [Addr.add] using this
      subst hspot
      refine ⟨_, _, _, q, rfl, by omega, by omega, .inr ⟨b, off, rfl, fun i hi => ?_⟩⟩
      have := hq i hi
      rw [Nat.mul_one, add_plain] at this
      exact this
end
end Go.Proofs.YtajdohcgjgknmaaGreatDoor
