/- Part 3 of what the proof of ProductVersions stands on. -/
import Derived.Test.YtajdohcgjgknmaaDoorV2ProductVersions
import Derived.Shelf.SlSortCmp.NoneTotal
import Derived.ChangeKeysEq
import Derived.Deep.MidRow
import Derived.OwnWalk
/- Pieces, gathered and sorted. -/
namespace Go.Proofs.YtajdohcgjgknmaaDoor
open Go.RowKit

theorem OwnL.lower {α : Type} {R : Rep α} {m n₀ : Nat} {e : TypeId} {size : Nat} {v : Value} {w : World} {l : List α} (h : OwnL R n₀ e size v w l) (hm : m ≤ n₀) : OwnL R m e size v w l := by
 obtain ⟨cs, h1, h2, h3, h4⟩ := h
 refine ⟨cs, h1, h2, ⟨h3.1, ?_⟩, h4⟩
 rcases h3.2 with q | ⟨g, cap, cur, q, hb, rest⟩
 · exact .inl q
 · exact .inr ⟨g, cap, cur, q, T hm hb, rest⟩
/-- The sort of a list of one's own, empty or not. -/
theorem Sort_c {n₀ e : Nat} {a : Option Addr} {n cap : Nat} {rs : List RawPc} (w : World) (h : OwnL rawR n₀ e 4 (.slice a n cap) w rs) (hl : rs.length = n) (hn : n ≤ 1000) :
    Calls Tryd.prog 80 #[.slice a n cap, .func (.func 65) #[] #[]] w fun e w' => e = .returned (.tuple #[]) ∧ ∃ rs', rs'.Perm rs ∧ (rs'.Pairwise fun x y => befR y x = false) ∧ RawsAt w' a n rs' ∧ (∀ U, Ext U w → U.heap.size ≤ n₀ → Ext U w') ∧ w.heap.size ≤ w'.heap.size := by
  have hb := h.base
  by_cases h0 : n = 0
  · subst h0
    obtain rfl := List.eq_nil_of_length_eq_zero hl
    refine (Go.Proofs.AnyF.slices_SortFunc_none Tryd.sortPc a cap _ w).mono fun e w' ⟨he, hw⟩ => ⟨he, [], .refl _, List.Pairwise.nil, RawsAt.nil _ _, fun U hU _ => hw ▸ hU, by rw [hw]; exact Nat.le_refl _⟩
  · have hg : ∃ g, a = some ⟨g, 0, none⟩ := by
      obtain ⟨cs, k1, k2, k3, k4⟩ := h
      rcases k3.2 with ⟨q, _⟩ | ⟨g, cap', cur, q, _⟩
      · injection q with r1 r2 r3; omega
      · injection q with r1; exact ⟨g, r1⟩
    obtain ⟨g, rfl⟩ := hg
    refine (SortFunc_c w h hl (by omega)).mono fun e w' ⟨he, rs', h1, h2, h3, h4, h5⟩ => ⟨he, rs', h1, h2, h3, fun U hU hUn => h4 U hU (T hUn (hb g rfl)), h5⟩
set_option maxRecDepth 1000000 in
set_option maxHeartbeats 4000000 in
theorem AppendSeq_c {w0 w1 : World} {a : Option Addr} {n c B : Nat} {rs : List RawPc} (w : World) (hR : RawsAt w0 a n rs) (hn : n ≤ 1000) (e0 : Ext w0 w1) (cB : w1.cell? ⟨B, 0, none⟩ = some (.slice a n c)) (e1 : Ext w1 w) : Calls Tryd.prog 84 #[.slice none 0 0, .func (.func 81) #[] #[.pointer (some ⟨B, 0, none⟩)]] w fun e w' => ∃ (a' : Option Addr) (c' : Nat), e = .returned (.slice a' n c') ∧ OwnL rawR w.heap.size 41 4 (.slice a' n c') w' rs ∧ Ext w w' := by
 have hln := hR.1
 have hEE : Ext w1 w := e1
 refine icalls_cw 13 [(1, .func (.func 81) #[] #[.pointer (some ⟨B, 0, none⟩)]), (0, .slice none 0 0)] Tryd.func84 rfl Tryd.ntmps84 (by kernel_rfl) (by kernel_rfl) (fun L mm => ?_)
 have hE : Ext w w := Ext.refl w
 refine icw_seq ?_
 refine icw_plain ?_
 refine ipl_step rfl (by kernel_rfl) (by kernel_rfl) (by kernel_rfl) (sn_new (us := #[.slice none 0 0]) (t := 28) (by kernel_rfl) ?_)
 intro O1 X2 hzO1 hyO1 hb hbx; have bO1_0 := bx1 hbx; clear hbx
 replace hE := hE.trans hb; have hs3 := hb.size; clear hb; have lt4 := bO1_0.lt
 refine ipl_take (.slice none 0 0) rfl (by kernel_rfl) (by kernel_rfl) (by kernel_rfl) (by kernel_rfl) ?_
 refine ipl_nil ?_
 refine iqw_then ?_
 refine icw_seq ?_
 refine icw_seq ?_
 refine icw_plain ?_
 refine ipl_take (.func (.func 81) #[] #[.pointer (some ⟨B, 0, none⟩)]) rfl (by kernel_rfl) (by kernel_rfl) (by kernel_rfl) (by kernel_rfl) ?_
 refine ipl_nil ?_
 refine iqw_then ?_
 refine icw_block ?_
 refine icw_range (ps := [7]) (by kernel_rfl) (enters_of Tryd.func81 (by kernel_rfl) rfl) (Values_seq (X := (fun k => k = O1 ∨ X2.heap.size ≤ k)) hR e0 cB (fun k hk => hk.elim (fun e => e ▸ T (T e0.size e1.size) (Nat.le_of_eq hzO1)) (fun h => T (T (T e0.size e1.size) hs3) h))) (e1.trans hE) (fun _ => rfl) (by kernel_rfl) (fun i W => ∃ a9 : Option Addr, ∃ c9 : Nat, X2.heap.size ≤ W.heap.size ∧ Ext w W ∧ BoxAt W O1 0 (.slice a9 i c9) ∧ OwnL rawR X2.heap.size 41 4 (.slice a9 i c9) W (rs.take i)) (fun _ _ _ => False) (fun i A B h hm => by obtain ⟨a9, c9, hsz, hE, b9, own9⟩ := h; exact ⟨a9, c9, T hsz hm.size, hm.ext hE hs3, hm.box b9, hm.own own9⟩) (fun _ _ _ _ h _ => h.elim) ⟨none, 0, Nat.le_refl _, hE, bO1_0, OwnL.nil _ _ _ _ _⟩ ?_ ?_ ?_
 ·
  clear bO1_0 hE
  intro l7 k8 i w5 hii h _
  obtain ⟨a9, c9, hs6, hE, b9, own9⟩ := h
  have htk : (rs.take i).length = i := by rw [List.length_take]; omega
  have htn := rawN_take (rs := rs) (i := i) (by omega)
  have hX9 : Ext w5 w5 := Ext.refl _
  refine icw_clean [2, 7] (ws' := [(2, .pointer (some ⟨O1, 0, none⟩)), (7, .agg #[.int .i64 ((rawN rs i).im : Int), .int .i64 ((rawN rs i).t : Int), .bool ((rawN rs i).cl), .slice ((rawN rs i).a) ((rawN rs i).n) ((rawN rs i).c)])]) (by kernel_rfl) (fun L => ?_)
  have hrk10 : RK X2.heap.size (fun k => k = O1 ∨ X2.heap.size ≤ k) w5 w5 := RK.refl _ _ _
  refine icw_plain ?_
  refine ipl_step rfl (by kernel_rfl) (by kernel_rfl) (by kernel_rfl) (sn_new (us := #[.int .i64 0, .int .i64 0, .bool false, .slice none 0 0]) (t := 41) (by kernel_rfl) ?_)
  intro O11 X12 hzO11 hyO11 hb hbx; have ⟨bO11_0, bO11_1, bO11_2, bO11_3⟩ := bx4 hbx; clear hbx
  replace hE := hE.trans hb; replace hX9 := hX9.trans hb; replace hrk10 := hrk10.ext hb; have hs13 := hb.size; clear hb; have lt14 := bO11_0.lt
  refine ipl_put rfl (by kernel_rfl) (by kernel_rfl) (sn_setK4 (O := O11) (j := 0) (v0 := .int .i64 ((rawN rs i).im : Int)) (v1 := .int .i64 ((rawN rs i).t : Int)) (v2 := .bool ((rawN rs i).cl)) (v3 := .slice ((rawN rs i).a) ((rawN rs i).n) ((rawN rs i).c)) (ex_store (p := .pointer (some ⟨O11, 0, none⟩)) (v := .agg #[.int .i64 ((rawN rs i).im : Int), .int .i64 ((rawN rs i).t : Int), .bool ((rawN rs i).cl), .slice ((rawN rs i).a) ((rawN rs i).n) ((rawN rs i).c)]) rfl (by kernel_rfl) (by kernel_rfl) (st41 bO11_0.1 bO11_0.2 bO11_1.1 bO11_1.2 bO11_2.1 bO11_2.2 bO11_3.1 bO11_3.2)) bO11_0 bO11_1 bO11_2 bO11_3 ?_)
  intro X15 ho hv0 hv1 hv2 hv3 hk; replace hE := ho.ext hE (T (T hs3 hs6) (Nat.le_of_eq hzO11)); replace hX9 := ho.ext hX9 (Nat.le_of_eq hzO11); replace hrk10 := hrk10.turn ho (.inr (Nat.le_of_eq hzO11)); have hs16 : X12.heap.size ≤ X15.heap.size := Nat.le_of_eq ho.size.symm; clear ho hk bO11_0 bO11_1 bO11_2 bO11_3; have bO11_0 := hv0; clear hv0; have bO11_1 := hv1; clear hv1; have bO11_2 := hv2; clear hv2; have bO11_3 := hv3; clear hv3
  refine ipl_nil ?_
  refine iqw_asg hrk10 (fun w18 hm17 => ?_)
  have bt19 := (BoxAt.ext hX9 b9)
  have ownt20 := (own9.ext hX9)
  replace hE := hm17.ext hE hs3; replace bt19 := hm17.box bt19; replace ownt20 := hm17.own ownt20; replace bO11_0 := hm17.box bO11_0; replace bO11_1 := hm17.box bO11_1; replace bO11_2 := hm17.box bO11_2; replace bO11_3 := hm17.box bO11_3; have hs21 := hm17.size
  have hrk22 : RK X2.heap.size (fun k => k = O1 ∨ X2.heap.size ≤ k) w18 w18 := RK.refl _ _ _
  refine icw_block ?_
  refine icw_plain ?_
  refine ipl_take (.slice a9 i c9) rfl (by kernel_rfl) (by kernel_rfl) (by kernel_rfl) (ex_load rfl (by kernel_rfl) (ld28 (bt19.1))) ?_
  refine ipl_take (.agg #[.int .i64 ((rawN rs i).im : Int), .int .i64 ((rawN rs i).t : Int), .bool ((rawN rs i).cl), .slice ((rawN rs i).a) ((rawN rs i).n) ((rawN rs i).c)]) rfl (by kernel_rfl) (by kernel_rfl) (by kernel_rfl) (ex_load rfl (by kernel_rfl) (ld41 (bO11_0.1) (bO11_1.1) (bO11_2.1) (bO11_3.1))) ?_
  refine ipl_step rfl (by kernel_rfl) (by kernel_rfl) (by kernel_rfl) (sn_newS (us := #[.int .i64 ((rawN rs i).im : Int), .int .i64 ((rawN rs i).t : Int), .bool ((rawN rs i).cl), .slice ((rawN rs i).a) ((rawN rs i).n) ((rawN rs i).c)]) (t := 41) (k := 1) (c := 1) (by kernel_rfl) ?_)
  intro O23 X24 hzO23 hyO23 hb hbx; have ⟨bO23_0, bO23_1, bO23_2, bO23_3⟩ := bx4 hbx; clear hbx
  replace hE := hE.trans hb; replace bt19 := BoxAt.ext hb bt19; replace ownt20 := ownt20.ext hb; replace bO11_0 := BoxAt.ext hb bO11_0; replace bO11_1 := BoxAt.ext hb bO11_1; replace bO11_2 := BoxAt.ext hb bO11_2; replace bO11_3 := BoxAt.ext hb bO11_3; replace hrk22 := hrk22.ext hb; have hs25 := hb.size; clear hb; have lt26 := bO23_0.lt
  have hbs37 := ownt20.base
  obtain ⟨g27, cap28, w29, hrun30, own31, hgr32, hgb33⟩ := own_app1k (P := Tryd.prog) (ty := 28) pieceT (ownt20) (T hs6 (T hs13 (T hs16 (T hs21 hs25)))) (k := i) htk (O := O23) (c := 1) (x := rawN rs i) (d := [.int .i64 ((rawN rs i).im : Int), .int .i64 ((rawN rs i).t : Int), .bool ((rawN rs i).cl), .slice ((rawN rs i).a) ((rawN rs i).n) ((rawN rs i).c)]) (F := []) rfl (cells4 (bO23_0.1) (bO23_1.1) (bO23_2.1) (bO23_3.1)) (by simp [Value.oneCell']) (⟨rfl, rfl⟩) (fun b hb => by cases hb) (by omega) (by omega)
  refine ipl_step rfl (by kernel_rfl) (by kernel_rfl) (by kernel_rfl) (sn_eff (v := .slice (some ⟨g27, 0, none⟩) (i + 1) cap28) (w' := w29) (ex_append rfl (by kernel_rfl) (by kernel_rfl) hrun30) ?_)
  replace bt19 := BoxAt.grownR bt19 hgb33 (own_not hbs37 (Nat.lt_of_lt_of_le lt4 (Nat.le_refl _))); replace hrk22 := hrk22.app hgb33 (ownt20) (fun k hk => .inl (.inr (hbs37 k hk))); replace hE := hgr32.ext _ hE hs3; have hs34 := hgr32.size
  have hl35 := own31.base g27 rfl; have hh36 := own31.lt g27 rfl
  rw [htn] at own31
  refine ipl_put rfl (by kernel_rfl) (by kernel_rfl) (sn_set (O := O1) (j := 0) (v := .slice (some ⟨g27, 0, none⟩) (i + 1) cap28) (ex_store (p := .pointer (some ⟨O1, 0, none⟩)) (v := .slice (some ⟨g27, 0, none⟩) (i + 1) cap28) rfl (by kernel_rfl) (by kernel_rfl) (st28 bt19.1 bt19.2)) bt19 ?_)
  intro X39 ho hv0 hk; replace hE := ho.ext hE (Nat.le_of_eq hzO1); replace hrk22 := hrk22.turn ho (.inl (.inl rfl)); replace own31 := own31.turn ho (own_not (own31.base) (Nat.lt_of_lt_of_le lt4 (Nat.le_refl _))) (fun _ _ _ h => by rw [h.2]; exact fun b hb => by cases hb); have hs40 : w29.heap.size ≤ X39.heap.size := Nat.le_of_eq ho.size.symm; clear ho hk bt19; have bt19 := hv0; clear hv0
  refine ipl_nil ?_
  refine iqw_block ?_
  exact iqw_next hrk22 ⟨(some ⟨g27, 0, none⟩), cap28, (T hs6 (T hs13 (T hs16 (T hs21 (T hs25 (T hs34 hs40)))))), hE, bt19, own31⟩
 ·
  clear bO1_0 hE
  intro D41 w42 hD45 hDl46 h hmk44
  obtain ⟨a9, c9, hs43, hE, b9, own9⟩ := h
  rw [List.take_of_length_le (by omega)] at own9
  refine iqw_block ?_
  refine iqw_then ?_
  refine icw_seq ?_
  refine icw_plain ?_
  refine ipl_take (.slice a9 n c9) rfl (by kernel_rfl) (by kernel_rfl) (by kernel_rfl) (ex_load rfl (by kernel_rfl) (ld28 (b9.1))) ?_
  refine ipl_take (.slice a9 n c9) rfl (by kernel_rfl) (by kernel_rfl) (by kernel_rfl) (by kernel_rfl) ?_
  refine ipl_nil ?_
  refine iqw_then ?_
  refine icw_ret ?_
  refine iqw_ret w.heap.size [.slice a9 n c9] rfl (marksC (T hs3 hD45) hmk44 (fun _ h => by cases h)) (by simp) (fun W9 hm9 => ?_)
  replace hE := hm9.ext hE (Nat.le_refl _); replace b9 := hm9.box b9; replace own9 := hm9.own own9; have hs47 := hm9.size
  refine ⟨⟨(by kernel_rfl), trivial⟩, ?_⟩
  exact ⟨_, _, rfl, (own9).lower hs3, hE⟩
 · intro _ _ _ _ _ _ _ h _; exact h.elim
set_option maxRecDepth 1000000 in
set_option maxHeartbeats 4000000 in
theorem Collect_c {w0 w1 : World} {a : Option Addr} {n c B : Nat} {rs : List RawPc} (w : World) (hR : RawsAt w0 a n rs) (hn : n ≤ 1000) (e0 : Ext w0 w1) (cB : w1.cell? ⟨B, 0, none⟩ = some (.slice a n c)) (e1 : Ext w1 w) : Calls Tryd.prog 79 #[.func (.func 81) #[] #[.pointer (some ⟨B, 0, none⟩)]] w fun e w' => ∃ (a' : Option Addr) (c' : Nat), e = .returned (.slice a' n c') ∧ OwnL rawR w.heap.size 41 4 (.slice a' n c') w' rs ∧ Ext w w' := by
 refine calls_cw 5 [(0, .func (.func 81) #[] #[.pointer (some ⟨B, 0, none⟩)])] Tryd.func79 rfl Tryd.ntmps79 (by kernel_rfl) (by kernel_rfl) (fun L => ?_)
 have hE : Ext w w := Ext.refl w
 refine cw_seq ?_; refine cw_plain ?_; refine pT (.slice none 0 0) ?_; refine pl_nil ?_; refine qw_then ?_; refine cw_seq ?_; refine cw_plain ?_; refine pT (.func (.func 81) #[] #[.pointer (some ⟨B, 0, none⟩)]) ?_
 refine pS (sn_call (f := 84) (args := #[.slice none 0 0, .func (.func 81) #[] #[.pointer (some ⟨B, 0, none⟩)]]) (by kernel_rfl) ((AppendSeq_c _ hR hn e0 cB (e1.trans (Ext.refl _))).mono ?_))
 rintro e w4 ⟨a1, c2, rfl, own3, hb⟩
 replace hE := hE.trans hb; have hs5 := hb.size; clear hb
 refine ⟨_, rfl, ?_⟩
 refine pT (.slice a1 n c2) ?_; refine pl_nil ?_; refine qw_then ?_
 refine cw_ret ?_
 refine qw_ret [.slice a1 n c2] rfl ⟨(by kernel_rfl), trivial⟩ ?_
 exact ⟨_, _, rfl, (own3).lower (Nat.le_refl _), hE⟩
set_option maxRecDepth 1000000 in
set_option maxHeartbeats 4000000 in
theorem SortedFunc_c {w0 w1 : World} {a : Option Addr} {n c B : Nat} {rs : List RawPc} (w : World) (hR : RawsAt w0 a n rs) (hn : n ≤ 1000) (e0 : Ext w0 w1) (cB : w1.cell? ⟨B, 0, none⟩ = some (.slice a n c)) (e1 : Ext w1 w) : Calls Tryd.prog 63 #[.func (.func 81) #[] #[.pointer (some ⟨B, 0, none⟩)], .func (.func 65) #[] #[]] w fun e w' => ∃ (a' : Option Addr) (c' : Nat) (rs' : List RawPc), e = .returned (.slice a' n c') ∧ rs'.Perm rs ∧ (rs'.Pairwise fun x y => befR y x = false) ∧ RawsAt w' a' n rs' ∧ Ext w w' := by
 have hln := hR.1
 refine calls_cw 12 [(1, .func (.func 65) #[] #[]), (0, .func (.func 81) #[] #[.pointer (some ⟨B, 0, none⟩)])] Tryd.func63 rfl Tryd.ntmps63 (by kernel_rfl) (by kernel_rfl) (fun L => ?_)
 have hE : Ext w w := Ext.refl w
 refine cw_seq ?_; refine cw_plain ?_; refine pT (.slice none 0 0) ?_; refine pl_nil ?_; refine qw_then ?_; refine cw_seq ?_; refine cw_plain ?_; refine pT (.func (.func 81) #[] #[.pointer (some ⟨B, 0, none⟩)]) ?_
 refine pS (sn_call (f := 79) (args := #[.func (.func 81) #[] #[.pointer (some ⟨B, 0, none⟩)]]) (by kernel_rfl) ((Collect_c _ hR hn e0 cB (e1.trans (Ext.refl _))).mono ?_))
 rintro e w4 ⟨a1, c2, rfl, own3, hb⟩
 replace hE := hE.trans hb; have hs5 := hb.size; clear hb
 refine ⟨_, rfl, ?_⟩
 refine pT (.slice a1 n c2) ?_; refine pl_nil ?_; refine qw_then ?_; refine cw_seq ?_; refine cw_plain ?_; refine pT (.slice a1 n c2) ?_; refine pT (.func (.func 65) #[] #[]) ?_
 refine pS (sn_call (f := 80) (args := #[.slice a1 n c2, .func (.func 65) #[] #[]]) (by kernel_rfl) ((Sort_c _ (own3) hln hn).mono ?_))
 rintro e w6 ⟨rfl, hP9⟩
 obtain ⟨rs9, hp9, hs9, hr9, hU9, hz9⟩ := hP9
 replace hE := hU9 _ hE (Nat.le_refl _)
 have hs7 := hz9
 refine ⟨_, rfl, ?_⟩
 refine pl_nil ?_; refine qw_then ?_; refine cw_seq ?_; refine cw_plain ?_; refine pT (.slice a1 n c2) ?_; refine pT (.slice a1 n c2) ?_; refine pl_nil ?_; refine qw_then ?_
 refine cw_ret ?_
 refine qw_ret [.slice a1 n c2] rfl ⟨(by kernel_rfl), trivial⟩ ?_
 exact ⟨_, _, rs9, rfl, hp9, hs9, hr9, hE⟩

end Go.Proofs.YtajdohcgjgknmaaDoor

/- Contracts of package product: the division. -/
namespace Go.Proofs.YtajdohcgjgknmaaDoor
open Go.RowKit

theorem Prod.divF_len : ∀ (l : List Prod.Pc) (r : List Int), (Prod.divF r l).length ≤ l.length
 | [], _ => Nat.le_refl _
 | x :: l, r => by
  have := Prod.divF_len l (Globe.lessL r x.rw)
  rw [Prod.divF, List.length_append, List.length_cons]
  split <;> simp <;> omega
def FolP (w1 w : World) (O : Nat) (r : List Int) (l : List Prod.Pc) (e : Ending) (w' : World) : Prop :=
 ∃ (v : Option Addr) (n k : Nat) (a' : Option Addr) (i' c' : Nat), e = .returned (.agg #[.slice v n k]) ∧ BoxAt w' O 0 (.slice a' i' c') ∧ OwnS (fun k => w.heap.size ≤ k) pieceR 41 4 (.slice a' i' c') w' (Prod.divF r l) ∧ (Prod.divF r l).length = i' ∧ Ext w1 w' ∧ w.heap.size ≤ w'.heap.size
set_option maxRecDepth 1000000 in
set_option maxHeartbeats 4000000 in
theorem foldD_v {w1 : World} {a : Option Addr} {n : Nat} {l : List Prod.Pc} {b o O : Nat} {r : List Int} (c k : Nat) (w : World) (h : PcsAt w1 a n l) (e1 : Ext w1 w) (hw1 : w1.heap.size ≤ O) (hv : VA w b o r) (hbO : O ≠ b) (hO : BoxAt w O 0 (.slice none 0 0)) (hn : n ≤ 100) (hT : Tab w1) (hok : ∀ p ∈ l, Globe.validL p.rw = true) :
  Calls Tryd.prog 37 #[.slice a n c, .agg #[.slice (some ⟨b, o, none⟩) 24 k], .func (.func 66) #[] #[.pointer (some ⟨O, 0, none⟩)]] w (FolP w1 w O r l) := by
 have hs0 := e1.size; have hnb := h.max; have hln := h.len; have ltb := hv.lt; have lO := hO.lt; have HOb := Lib.hid hbO
 refine calls_cw 21 [(2, .func (.func 66) #[] #[.pointer (some ⟨O, 0, none⟩)]), (1, .agg #[.slice (some ⟨b, o, none⟩) 24 k]), (0, .slice a n c)] Tryd.func37 rfl Tryd.ntmps37 (by kernel_rfl) (by kernel_rfl) (fun L => ?_)
 have hE : Ext w w := Ext.refl w
 refine cw_seq ?_; refine cw_plain ?_
 refine pS (sn_new (us := #[.slice (some ⟨b, o, none⟩) 24 k]) (t := 26) (by kernel_rfl) ?_)
 intro O1 X2 hzO1 hyO1 hb hbx; have bO1_0 := bx1 hbx; clear hbx
 replace e1 := e1.trans hb; replace hE := hE.trans hb; replace hv := hv.ext hb; replace hO := BoxAt.ext hb hO; have hs3 := hb.size; clear hb; have lt4 := bO1_0.lt
 refine pS (sn_new (us := #[.slice none 0 0]) (t := 26) (by kernel_rfl) ?_)
 intro O5 X6 hzO5 hyO5 hb hbx; have bO5_0 := bx1 hbx; clear hbx
 replace e1 := e1.trans hb; replace hE := hE.trans hb; replace hv := hv.ext hb; replace hO := BoxAt.ext hb hO; replace bO1_0 := BoxAt.ext hb bO1_0; have hs7 := hb.size; clear hb; have lt8 := bO5_0.lt; refine pl_nil ?_; refine qw_then ?_; refine cw_seq ?_; refine cw_seq ?_; refine cw_plain ?_; refine pT (.slice a n c) ?_; refine pT (.int .i64 (((n : Nat) : Int) : Int)) ?_; refine pT (.int .i64 0) ?_; refine pl_nil ?_; refine qw_then ?_
 refine cw_block ?_
 refine cw_loop [2, 4, 6, 9, 10, 11] (fun ws' wr m => ∃ i : Nat, ∃ BB : Nat, ∃ oB : Nat, ∃ kB : Nat, ∃ a9 : Option Addr, ∃ i9 : Nat, ∃ c9 : Nat, ws' = [(2, .func (.func 66) #[] #[.pointer (some ⟨O, 0, none⟩)]), (4, .pointer (some ⟨O1, 0, none⟩)), (6, .pointer (some ⟨O5, 0, none⟩)), (9, .slice a n c), (10, .int .i64 (((n : Nat) : Int) : Int)), (11, .int .i64 (((i : Nat) : Int) : Int))] ∧ m = n - i ∧ X6.heap.size ≤ wr.heap.size ∧ Ext w1 wr ∧ BoxAt wr O5 0 (.slice none 0 0) ∧ BoxAt wr O1 0 (.slice (some ⟨BB, oB, none⟩) 24 kB) ∧ VA wr BB oB (Prod.rest r (l.take i)) ∧ BoxAt wr O 0 (.slice a9 i9 c9) ∧ OwnS (fun k => X6.heap.size ≤ k) pieceR 41 4 (.slice a9 i9 c9) wr (Prod.divF r (l.take i)) ∧ i ≤ n ∧ (Prod.divF r (l.take i)).length = i9 ∧ (.slice a9 i9 c9 : Value).ownBlock ≠ some BB ∧ Hid (O1 ≠ BB) ∧ Hid (O5 ≠ BB) ∧ Hid (O ≠ BB)) (ws0 := [(2, .func (.func 66) #[] #[.pointer (some ⟨O, 0, none⟩)]), (4, .pointer (some ⟨O1, 0, none⟩)), (6, .pointer (some ⟨O5, 0, none⟩)), (9, .slice a n c), (10, .int .i64 (((n : Nat) : Int) : Int)), (11, .int .i64 0)]) (by kernel_rfl) _ ⟨0, b, o, k, none, 0, 0, rfl, rfl, Nat.le_refl _, e1, bO5_0, bO1_0, hv, hO, OwnS.nil _ _ _ _ _, by omega, rfl, (fun e => by cases e), Lib.hid (Nat.ne_of_gt (Nat.lt_of_lt_of_le ltb (Nat.le_of_eq hzO1))), Lib.hid (Nat.ne_of_gt (Nat.lt_of_lt_of_le ltb (T hs3 (Nat.le_of_eq hzO5)))), Lib.hid HOb.out⟩ ?_
 clear hv hO bO1_0 bO5_0 e1
 rintro m11 L ws w10 ⟨i, BB, oB, kB, a9, i9, c9, rfl, rfl, hs9, e1, bO5_0, b4, vB, bO, os9, hi, hl9, hnB, hneO1, hneO5, hneO⟩
 have lt12 := vB.lt
 by_cases hlt : i < n
 ·
  obtain ⟨b13, o14, p, ar15, k16, c17, rfl, hx18, hp19, hp20, hp21, hp22, hA23⟩ := h.at hlt
  obtain ⟨b24, o25, rfl, rfl, hV26⟩ := va_of hA23 (hok p (List.mem_of_getElem? hx18))
  have lt27 := hV26.lt
  have htk : l.take (i + 1) = l.take i ++ [p] := by rw [List.take_add_one, hx18]; rfl
  have hrs : Prod.rest r (l.take (i + 1)) = Globe.lessL (Prod.rest r (l.take i)) p.rw := by rw [htk]; exact Prod.rest_snoc _ _ _
  have hds : Prod.divF r (l.take (i + 1)) = Prod.divF r (l.take i) ++ (if Prod.noC (Globe.meetL (Prod.rest r (l.take i)) p.rw) = true then [] else [Prod.own (Prod.rest r (l.take i)) p]) := by rw [htk]; exact Prod.divF_snoc _ _ _
  have hdl := Prod.divF_len (l.take i) r; rw [List.length_take] at hdl
  have hX28 : Ext w10 w10 := Ext.refl _; refine cw_seq ?_; refine cw_plain ?_
  refine pU (.bool true) (ev_dec (show _ = Result.ok (Next.value (Value.bool (decide ((((i : Nat) : Int) : Int) < (((n : Nat) : Int) : Int))))) _ from by kernel_rfl) (by omega)) ?_
  refine pl_nil ?_; refine qw_then ?_; refine cw_seq ?_
  refine cw_t (by kernel_rfl) ?_
  refine cw_skip ?_
  refine qw_then ?_; refine cw_seq ?_
  refine cw_block ?_
  refine cw_seq ?_; refine cw_plain ?_
  refine pU (.pointer (some ⟨b13, o14 + i * 4, none⟩)) (ex_index (p := .slice (some ⟨b13, o14, none⟩) n c) (i := .int .i64 ((i : Nat) : Int)) rfl (by kernel_rfl) (by kernel_rfl) (ix28 (k := i) (by omega))) ?_
  refine pU (.agg #[.int .i64 p.im, .int .i64 p.t, .bool p.cl, .slice (some ⟨b24, o25, none⟩) 24 c17]) (ex_load rfl (by kernel_rfl) (ld41 ((e1.cell hp19)) ((e1.cell hp20)) ((e1.cell hp21)) ((e1.cell hp22)))) ?_
  refine pS (sn_new (us := #[.int .i64 0, .int .i64 0, .bool false, .slice none 0 0]) (t := 41) (by kernel_rfl) ?_)
  intro O29 X30 hzO29 hyO29 hb hbx; have ⟨bO29_0, bO29_1, bO29_2, bO29_3⟩ := bx4 hbx; clear hbx
  replace e1 := e1.trans hb; replace hX28 := hX28.trans hb; have hs31 := hb.size; clear hb; have lt32 := bO29_0.lt
  refine pP (sn_setK4 (O := O29) (j := 0) (v0 := .int .i64 p.im) (v1 := .int .i64 p.t) (v2 := .bool p.cl) (v3 := .slice (some ⟨b24, o25, none⟩) 24 c17) (ex_store (p := .pointer (some ⟨O29, 0, none⟩)) (v := .agg #[.int .i64 p.im, .int .i64 p.t, .bool p.cl, .slice (some ⟨b24, o25, none⟩) 24 c17]) rfl (by kernel_rfl) (by kernel_rfl) (st41 bO29_0.1 bO29_0.2 bO29_1.1 bO29_1.2 bO29_2.1 bO29_2.2 bO29_3.1 bO29_3.2)) bO29_0 bO29_1 bO29_2 bO29_3 ?_)
  intro X33 ho hv0 hv1 hv2 hv3 hk; replace e1 := ho.ext e1 (T (T hs0 (T hs3 (T hs7 hs9))) (Nat.le_of_eq hzO29)); replace hX28 := ho.ext hX28 (Nat.le_of_eq hzO29); have hs34 : X30.heap.size ≤ X33.heap.size := Nat.le_of_eq ho.size.symm; clear ho hk bO29_0 bO29_1 bO29_2 bO29_3; have bO29_0 := hv0; clear hv0; have bO29_1 := hv1; clear hv1; have bO29_2 := hv2; clear hv2; have bO29_3 := hv3; clear hv3; refine pl_nil ?_; refine qw_then ?_; refine cw_plain ?_; refine pT (.func (.func 66) #[] #[.pointer (some ⟨O, 0, none⟩)]) ?_
  refine pU (.agg #[.slice (some ⟨BB, oB, none⟩) 24 kB]) (ex_load rfl (by kernel_rfl) (ld26 ((BoxAt.ext hX28 b4).1))) ?_
  refine pU (.agg #[.int .i64 p.im, .int .i64 p.t, .bool p.cl, .slice (some ⟨b24, o25, none⟩) 24 c17]) (ex_load rfl (by kernel_rfl) (ld41 (bO29_0.1) (bO29_1.1) (bO29_2.1) (bO29_3.1))) ?_
  refine pS (sn_call (f := 66) (args := #[.agg #[.slice (some ⟨BB, oB, none⟩) 24 kB], .agg #[.int .i64 p.im, .int .i64 p.t, .bool p.cl, .slice (some ⟨b24, o25, none⟩) 24 c17], .pointer (some ⟨O, 0, none⟩)]) (by kernel_rfl) ((divide2_c (x := p) _ _ _ (BoxAt.ext hX28 bO) ((os9.ext hX28)) hl9 (by omega) (Nat.lt_of_lt_of_le lO (T hs3 hs7)) (T hs9 (T hs31 hs34)) (vB.ext hX28) hneO.out hnB hV26 e1 hw1 (hT.ext e1)).mono ?_))
  rintro e w48 ⟨B35, k36, a37, i38, c39, rfl, hn40, hv41, hbx42, own43, hl44, hnb45, hkx46, he47⟩
  have bO5_0t49 := hkx46.box (BoxAt.ext hX28 bO5_0) (Nat.lt_of_lt_of_le lt8 (Nat.le_refl _)) (Nat.ne_of_gt (Nat.lt_of_lt_of_le lO (T hs3 (Nat.le_of_eq hzO5))))
  have b4t50 := hkx46.box (BoxAt.ext hX28 b4) (Nat.lt_of_lt_of_le lt4 hs7) (Nat.ne_of_gt (Nat.lt_of_lt_of_le lO (Nat.le_of_eq hzO1)))
  replace e1 := he47; have hs51 := hkx46.size; have lt52 := hv41.lt; have lt53 := hbx42.lt
  refine ⟨_, rfl, ?_⟩
  refine pP (sn_set (O := O1) (j := 0) (v := .slice (some ⟨B35, 0, none⟩) 24 k36) (ex_store (p := .pointer (some ⟨O1, 0, none⟩)) (v := .agg #[.slice (some ⟨B35, 0, none⟩) 24 k36]) rfl (by kernel_rfl) (by kernel_rfl) (st26 b4t50.1 b4t50.2)) b4t50 ?_)
  intro X54 ho hv0 hk; replace e1 := ho.ext e1 (T hs0 (Nat.le_of_eq hzO1)); replace bO5_0t49 := ho.box (Nat.ne_of_lt (Nat.lt_of_lt_of_le lt4 (Nat.le_of_eq hzO5))) bO5_0t49; replace hv41 := ho.va (Nat.ne_of_lt (Nat.lt_of_lt_of_le lt4 (T (T hs7 (T hs9 (T hs31 hs34))) hn40))) hv41; replace hbx42 := ho.box (Nat.ne_of_gt (Nat.lt_of_lt_of_le lO (Nat.le_of_eq hzO1))) hbx42; replace own43 := own43.turn ho (notS1 (Nat.lt_of_lt_of_le lt4 hs7)); have hs55 : w48.heap.size ≤ X54.heap.size := Nat.le_of_eq ho.size.symm; clear ho hk b4t50; have b4t50 := hv0; clear hv0; refine pl_nil ?_
  refine qw_block ?_
  refine qw_then ?_; refine cw_plain ?_
  refine pU (.int .i64 (((i + 1 : Nat) : Int) : Int)) (ev_wrap (by kernel_rfl) (by omega) (by omega)) ?_
  refine pT (.int .i64 (((i + 1 : Nat) : Int) : Int)) ?_; refine pl_nil ?_
  refine qw_round [2, 4, 6, 9, 10, 11] (ws' := [(2, .func (.func 66) #[] #[.pointer (some ⟨O, 0, none⟩)]), (4, .pointer (some ⟨O1, 0, none⟩)), (6, .pointer (some ⟨O5, 0, none⟩)), (9, .slice (some ⟨b13, o14, none⟩) n c), (10, .int .i64 (((n : Nat) : Int) : Int)), (11, .int .i64 (((i + 1 : Nat) : Int) : Int))]) (by kernel_rfl) _ ?_ ⟨(i + 1), B35, 0, k36, a37, i38, c39, rfl, rfl, (T hs9 (T hs31 (T hs34 (T hs51 hs55)))), e1, bO5_0t49, b4t50, (by rw [hrs]; exact hv41), hbx42, (by rw [hds]; exact own43), by omega, (by rw [hds]; exact hl44), hnb45, Lib.hid (Nat.ne_of_lt (Nat.lt_of_lt_of_le lt4 (T (T hs7 (T hs9 (T hs31 hs34))) hn40))), Lib.hid (Nat.ne_of_lt (Nat.lt_of_lt_of_le lt8 (T (T hs9 (T hs31 hs34)) hn40))), Lib.hid (Nat.ne_of_lt (Nat.lt_of_lt_of_le lO (T (T hs3 (T hs7 (T hs9 (T hs31 hs34)))) hn40)))⟩
  omega
 ·
  have hin : i = n := by omega
  rw [hin, List.take_of_length_le (Nat.le_of_eq hln)] at os9 hl9
  refine cw_seq ?_; refine cw_plain ?_
  refine pU (.bool false) (ev_ndec (show _ = Result.ok (Next.value (Value.bool (decide ((((i : Nat) : Int) : Int) < (((n : Nat) : Int) : Int))))) _ from by kernel_rfl) (by omega)) ?_
  refine pl_nil ?_; refine qw_then ?_; refine cw_seq ?_
  refine cw_f (by kernel_rfl) ?_
  refine cw_exit ?_
  refine qw_then_exit ?_
  refine qw_then_exit ?_
  refine qw_block_out ?_
  refine qw_then ?_; refine cw_seq ?_; refine cw_plain ?_
  refine pU (.agg #[.slice (some ⟨BB, oB, none⟩) 24 kB]) (ex_load rfl (by kernel_rfl) (ld26 (b4.1))) ?_
  refine pP (sn_set (O := O5) (j := 0) (v := .slice (some ⟨BB, oB, none⟩) 24 kB) (ex_store (p := .pointer (some ⟨O5, 0, none⟩)) (v := .agg #[.slice (some ⟨BB, oB, none⟩) 24 kB]) rfl (by kernel_rfl) (by kernel_rfl) (st26 bO5_0.1 bO5_0.2)) bO5_0 ?_)
  intro X56 ho hv0 hk; replace e1 := ho.ext e1 (T (T hs0 hs3) (Nat.le_of_eq hzO5)); replace b4 := ho.box (Nat.ne_of_gt (Nat.lt_of_lt_of_le lt4 (Nat.le_of_eq hzO5))) b4; replace vB := ho.va hneO5.out vB; replace bO := ho.box (Nat.ne_of_gt (Nat.lt_of_lt_of_le lO (T hs3 (Nat.le_of_eq hzO5)))) bO; replace os9 := os9.turn ho (notS1 (Nat.lt_of_lt_of_le lt8 (Nat.le_refl _))); have hs57 : w10.heap.size ≤ X56.heap.size := Nat.le_of_eq ho.size.symm; clear ho hk bO5_0; have bO5_0 := hv0; clear hv0; refine pl_nil ?_; refine qw_then ?_
  refine cw_ret ?_
  refine qw_ret [.agg #[.slice (some ⟨BB, oB, none⟩) 24 kB]] rfl ⟨⟨_, by kernel_rfl, res_ld (ld26 (bO5_0.1))⟩, trivial⟩ ?_
  exact ⟨_, _, _, _, _, _, rfl, bO, OwnS.mono (os9) (fun k _ hk => T (T hs3 hs7) hk), hl9, e1, (T hs3 (T hs7 (T hs9 hs57)))⟩

end Go.Proofs.YtajdohcgjgknmaaDoor

/- Contract of package product: divide. -/
namespace Go.Proofs.YtajdohcgjgknmaaDoor
open Go.RowKit

def Pl (a : Option Addr) : Prop := a = none ∨ ∃ b o, a = some ⟨b, o, none⟩
def RetPcs (w : World) (l : List Prod.Pc) (e : Ending) (w' : World) : Prop := ∃ (a : Option Addr) (n c : Nat), e = .returned (.slice a n c) ∧ PcsS (fun k => w.heap.size ≤ k) w' a n l ∧ n ≤ c ∧ Pl a ∧ Ext w w'
theorem OwnS.plain {α : Type} {S : Nat → Prop} {R : Rep α} {e : TypeId} {size : Nat} {a : Option Addr} {n c : Nat} {w : World} {l : List α} (h : OwnS S R e size (.slice a n c) w l) : Pl a := by
 obtain ⟨⟨cs, h1, h2, h3, h4⟩, hb⟩ := h
 rcases h3.2 with ⟨q, q2⟩ | ⟨g, cap, cur, q, _⟩
 · injection q with r1; exact .inl r1
 · injection q with r1; exact .inr ⟨g, 0, r1⟩
theorem Reads.sorted {w : World} : ∀ {rs : List RawPc} {l : List Prod.Pc}, Reads w rs l → (rs.Pairwise fun x y => befR y x = false) → Prod.Dist l → Prod.Sorted l
 | [], [], _, _, _ => List.Pairwise.nil
 | x :: rs, p :: l, h, hs, hd => by
  obtain ⟨h1, h2⟩ := List.pairwise_cons.1 hs
  obtain ⟨d1, d2⟩ := Prod.Dist.cons.1 hd
  refine List.pairwise_cons.2 ⟨fun q hq => ?_, Reads.sorted h.2 h2 d2⟩
  obtain ⟨i, hi⟩ := List.getElem?_of_mem hq
  obtain ⟨y, hy, e1, e2, e3, _⟩ : ∃ y, rs[i]? = some y ∧ ReadsP w y q := by
   have hl := h.2.len
   have hil : i < rs.length := by have := (List.getElem?_eq_some_iff.1 hi).1; omega
   obtain ⟨q', hq', hr⟩ := h.2.at (List.getElem?_eq_getElem hil)
   rw [hi] at hq'; cases hq'
   exact ⟨_, List.getElem?_eq_getElem hil, hr⟩
  have hb := h1 y (List.mem_of_getElem? hy)
  obtain ⟨f1, f2, f3, _⟩ := h.1
  unfold befR at hb
  rw [e1, e2, e3, f1, f2, f3] at hb
  exact (Prod.better_or (d1 q hq)).resolve_right (by unfold Prod.better; rw [hb]; simp)
theorem sorted_pcs {w : World} {a : Option Addr} {n : Nat} {l : List Prod.Pc} {rs rs' : List RawPc} (hd : Prod.Dist l) (h : Reads w rs l) (hp : rs'.Perm rs) (hs : rs'.Pairwise fun x y => befR y x = false) (hr : RawsAt w a n rs') : PcsAt w a n (Prod.sortD l) := by
 obtain ⟨l', q1, q2⟩ := Reads.perm hp.symm h
 have hd' := (Prod.Dist.perm q1).2 hd
 rw [← Prod.sortD_eq hd (q2.sorted hs hd') q1]
 exact ⟨rs', hr, q2⟩
set_option maxRecDepth 1000000 in
set_option maxHeartbeats 4000000 in
theorem divide_c {w1 w2 : World} {a : Option Addr} {n : Nat} {l : List Prod.Pc} {b o : Nat} {r : List Int} (c k : Nat) (w : World) (h : PcsAt w1 a n l) (e1 : Ext w1 w) (hv : VA w2 b o r) (e2 : Ext w2 w) (hn : n ≤ 100) (hd : Prod.Dist l) (hT : Tab w) (hok : ∀ p ∈ l, Globe.validL p.rw = true) :
  Calls Tryd.prog 44 #[.agg #[.slice (some ⟨b, o, none⟩) 24 k], .slice a n c] w (RetPcs w (Prod.divide r l)) := by
 replace h := h.ext e1; replace hv := hv.ext e2; have ltb := hv.lt; have hln := h.len; clear e1 e2
 obtain ⟨rs, hR, hrd⟩ := h
 refine calls_cw 16 [(1, .slice a n c), (0, .agg #[.slice (some ⟨b, o, none⟩) 24 k])] Tryd.func44 rfl Tryd.ntmps44 (by kernel_rfl) (by kernel_rfl) (fun L => ?_)
 have hE : Ext w w := Ext.refl w
 refine cw_seq ?_; refine cw_plain ?_
 refine pS (sn_new (us := #[.slice (some ⟨b, o, none⟩) 24 k]) (t := 26) (by kernel_rfl) ?_)
 intro O1 X2 hzO1 hyO1 hb hbx; have bO1_0 := bx1 hbx; clear hbx
 replace hE := hE.trans hb; have hs3 := hb.size; clear hb; have lt4 := bO1_0.lt; refine pT (.slice none 0 0) ?_; refine pl_nil ?_; refine qw_then ?_; refine cw_seq ?_; refine cw_plain ?_; refine pT (.slice a n c) ?_
 refine pS (sn_call (f := 64) (args := #[.slice a n c]) (by kernel_rfl) ((Values_c _ _ _ _).mono ?_))
 rintro e w8 ⟨B5, rfl, hn6, hc7, hb⟩
 replace hE := hE.trans hb; replace bO1_0 := BoxAt.ext hb bO1_0; have hs9 := hb.size; clear hb
 have lt10 := World.block_lt_of_cell? _ _ hc7
 refine ⟨_, rfl, ?_⟩
 refine pS (sn_call (f := 63) (args := #[.func (.func 81) #[] #[.pointer (some ⟨B5, 0, none⟩)], .func (.func 65) #[] #[]]) (by kernel_rfl) ((SortedFunc_c _ hR (by omega) hE hc7 (Ext.refl _)).mono ?_))
 rintro e w18 ⟨a11, c12, rs13, rfl, hp14, hs15, hr16, hb⟩
 replace hE := hE.trans hb; replace bO1_0 := BoxAt.ext hb bO1_0; replace hc7 := hb.cell hc7; have hs19 := hb.size; clear hb
 have hP17 : PcsAt w18 a11 n (Prod.sortD l) := sorted_pcs hd (hrd.ext hE) hp14 hs15 hr16
 have hE1 := hE
 have hX20 : Ext w18 w18 := Ext.refl _
 refine ⟨_, rfl, ?_⟩
 refine pT (.slice a11 n c12) ?_; refine pl_nil ?_; refine qw_then ?_; refine cw_seq ?_; refine cw_plain ?_
 refine pS (sn_new (us := #[.slice none 0 0]) (t := 28) (by kernel_rfl) ?_)
 intro O21 X22 hzO21 hyO21 hb hbx; have bO21_0 := bx1 hbx; clear hbx
 replace hE := hE.trans hb; replace hX20 := hX20.trans hb; replace bO1_0 := BoxAt.ext hb bO1_0; replace hc7 := hb.cell hc7; have hs23 := hb.size; clear hb; have lt24 := bO21_0.lt; refine pl_nil ?_; refine qw_then ?_; refine cw_seq ?_; refine cw_plain ?_; refine pT (.slice a11 n c12) ?_
 refine pU (.agg #[.slice (some ⟨b, o, none⟩) 24 k]) (ex_load rfl (by kernel_rfl) (ld26 (bO1_0.1))) ?_
 refine pT (.func (.func 66) #[] #[.pointer (some ⟨O21, 0, none⟩)]) ?_
 refine pS (sn_call (f := 37) (args := #[.slice a11 n c12, .agg #[.slice (some ⟨b, o, none⟩) 24 k], .func (.func 66) #[] #[.pointer (some ⟨O21, 0, none⟩)]]) (by kernel_rfl) ((foldD_v _ _ _ hP17 hX20 (Nat.le_of_eq hzO21) (hv.ext hE) (Nat.ne_of_gt (Nat.lt_of_lt_of_le ltb (T (T hs3 (T hs9 hs19)) (Nat.le_of_eq hzO21)))) bO21_0 (by omega) (hT.ext hE1) (fun p hp => hok p ((Prod.sortD_perm l).mem_iff.1 hp))).mono ?_))
 rintro e w36 ⟨av25, nv26, kv27, a28, i29, c30, rfl, hbx31, own32, hl33, he34, hz35⟩
 replace hE := hE1.trans he34; have lt37 := hbx31.lt
 refine ⟨_, rfl, ?_⟩
 refine pl_nil ?_; refine qw_then ?_; refine cw_seq ?_; refine cw_plain ?_
 refine pU (.slice a28 i29 c30) (ex_load rfl (by kernel_rfl) (ld28 (hbx31.1))) ?_
 have hcap := OwnS.cap own32 hl33; have hpl9 := OwnS.plain own32
 refine pS (sn_call (f := 68) (args := #[.slice a28 i29 c30]) (by kernel_rfl) ((Reverse_c _ (own32) hl33 (by have := Prod.divF_len (Prod.sortD l) r; have := (Prod.sortD_perm l).length_eq; omega)).mono ?_))
 rintro e w41 ⟨rfl, hP38, hU39, hz40⟩
 have hU9 : ∀ U, Ext U _ → U.heap.size ≤ X22.heap.size → Ext U w41 := fun U h q => hU39 U h (fun k hk => T q hk)
 replace hbx31 := old_box hU9 hbx31 (Nat.lt_of_lt_of_le lt24 (Nat.le_refl _)); replace hE := hU9 _ hE (T hs3 (T hs9 (T hs19 hs23)))
 have hs42 := hz40
 refine ⟨_, rfl, ?_⟩
 refine pl_nil ?_; refine qw_then ?_; refine cw_seq ?_; refine cw_plain ?_
 refine pU (.slice a28 i29 c30) (ex_load rfl (by kernel_rfl) (ld28 (hbx31.1))) ?_
 refine pT (.slice a28 i29 c30) ?_; refine pl_nil ?_; refine qw_then ?_; refine cC1 4 (fun L => ?_)
 refine cw_ret ?_
 refine qw_ret [.slice a28 i29 c30] rfl ⟨(by kernel_rfl), trivial⟩ ?_
 exact ⟨_, _, _, rfl, (hP38.mono fun k hk => T (T hs3 (T hs9 (T hs19 hs23))) hk), hcap, hpl9, hE⟩

end Go.Proofs.YtajdohcgjgknmaaDoor

/- Arrays of ints: reading one out of memory, comparing two. -/
namespace Go.Proofs.YtajdohcgjgknmaaDoor
open Go.RowKit

def intVals (l : List Int) : List Value := l.map (Value.int .i64)
theorem intVals_at {l : List Int} {i : Nat} (h : i < l.length) : (intVals l).toArray[i]? = some (.int .i64 (Globe.nth l i)) := by
 simp [intVals, Globe.nth, h]
theorem eqItems_ints {P : Program} (d : Nat) (e : TypeId) (hp : P.plainKey e = true) (hc : P.cellsOf e = 1) (hu : P.underlying e = some (.int .i64)) (xs ys : List Int) (w : World) :
  ∀ is : List Nat, (∀ i ∈ is, i < xs.length ∧ i < ys.length) → (Op.eqItems (d + 1) e (P.cellsOf e) (intVals xs).toArray (intVals ys).toArray is).run P w = .ok (is.all fun i => Globe.nth xs i == Globe.nth ys i) w
 | [], _ => by simp [Op.eqItems]
 | i :: is, h => by
  obtain ⟨h1, h2⟩ := h i (by simp)
  have ih := eqItems_ints d e hp hc hu xs ys w is (fun j hj => h j (by simp [hj]))
  have p1 : (part e (intVals xs).toArray (i * P.cellsOf e)).run P w = .ok (.int .i64 (Globe.nth xs i)) w := run_part_plain w hp (by rw [hc, Nat.mul_one]; exact intVals_at h1)
  have p2 : (part e (intVals ys).toArray (i * P.cellsOf e)).run P w = .ok (.int .i64 (Globe.nth ys i)) w := run_part_plain w hp (by rw [hc, Nat.mul_one]; exact intVals_at h2)
  simp only [Op.eqItems, Sem.run_bind, p1, p2, Result.andThen_ok, run_equalIn_int w d e .i64 .i64 _ _ hu, List.all_cons]
  cases hq : (Globe.nth xs i == Globe.nth ys i)
  · simp
  · simpa using ih
theorem equalIn_rows {P : Program} (t e : TypeId) (hu : P.underlying t = some (.array 24 e)) (hs : (P.info? e).isSome = true) (hp : P.plainKey e = true) (hc : P.cellsOf e = 1) (hue : P.underlying e = some (.int .i64)) (L : List Int) (hL : L.length = 24) (w : World) :
    (Op.equalIn 10000 t (.agg (intVals L).toArray) (.agg (intVals Globe.zeroL).toArray)).run P w = .ok (decide (L = Globe.zeroL)) w := by
  obtain ⟨i, hi⟩ := Option.isSome_iff_exists.1 hs
  rw [run_equalIn_array w 9999 _ _ hu hi, eqItems_ints 9998 e hp hc hue L Globe.zeroL w (List.range 24) (fun j hj => by have := List.mem_range.1 hj; simp [Globe.zeroL]; omega)]
  congr 1
  rw [Bool.eq_iff_iff, decide_eq_true_eq, List.all_eq_true]
  constructor
  · intro h
    exact Globe.ext_nth (by rw [hL]; rfl) fun j hj => by simpa using h j (List.mem_range.2 (by omega))
  · rintro rfl j _
    simp
/-- A load of a row of ints, guarded or not. -/
theorem wpList_load_g {P : Program} {ops : Array Oper} {rest : List Oper} {op : Oper} {a : Act} {w : World} {Q : Exit → Act → World → Prop} (hw : Region.wanted op (yielded ops a.tmps) = true) (ty : TypeId) (x : Operand) (ho : op.op = .load ty x)
  (b o : Nat) (hx : a.eval x = .pointer (some ⟨b, o, none⟩)) (cs : List Value) (d : TypeDesc) (hc : w.rangeAt b o cs)
  (hu : P.underlying ty = some d) (hd : d.isRow = true) (hi : (P.info? ty).map (·.size) = some cs.length)
  (h : wpList P ops Q rest (a.put op.dst (.agg cs.toArray)) w) : wpList P ops Q (op :: rest) a w :=
 wpList_step fun _ hK => by
  rw [if_pos hw]
  exact wp_load_mid ty x ho b o hx cs d hc hu hd hi (hK _ _ h)
theorem RowsAt.range {w : World} {B : Nat} {L : List Int} (h : RowsAt w B L) : w.rangeAt B 0 (intVals L) := by
 intro j v hv
 have hj : j < L.length := by
  rw [← List.length_map (f := Value.int .i64)]
  exact (List.getElem?_eq_some_iff.1 hv).1
 have : v = .int .i64 (Globe.nth L j) := by
  have e := intVals_at hj
  rw [List.getElem?_toArray] at e
  rw [e] at hv; cases hv; rfl
 rw [this, Nat.zero_add]
 exact h.cell (by rw [← h.len]; exact hj)

end Go.Proofs.YtajdohcgjgknmaaDoor

/- Contracts of package globe: Contains. -/
namespace Go.Proofs.YtajdohcgjgknmaaDoor
open Go.RowKit

theorem arrayAt_c (B k : Nat) (w : World) : (Instr.arrayAt 82 (.slice (some ⟨B, 0, none⟩) 24 k)).run Tryd.prog w = .ok (.pointer (some ⟨B, 0, none⟩)) w := by kernel_rfl
theorem eql24 {L : List Int} (hL : L.length = 24) (w : World) : (Op.equalIn 10000 82 (.agg (intVals L).toArray) (.agg #[.int .i64 0, .int .i64 0, .int .i64 0, .int .i64 0, .int .i64 0, .int .i64 0, .int .i64 0, .int .i64 0, .int .i64 0, .int .i64 0, .int .i64 0, .int .i64 0, .int .i64 0, .int .i64 0, .int .i64 0, .int .i64 0, .int .i64 0, .int .i64 0, .int .i64 0, .int .i64 0, .int .i64 0, .int .i64 0, .int .i64 0, .int .i64 0])).run Tryd.prog w = .ok (decide (L = Globe.zeroL)) w :=
 equalIn_rows (P := Tryd.prog) 82 3 Tryd.underlying82 (by kernel_rfl) (by kernel_rfl) (by kernel_rfl) Tryd.underlying3 L hL w
theorem size24 {L : List Int} (hL : L.length = 24) : (Tryd.prog.info? 82).map (·.size) = some (intVals L).length := by rw [show (intVals L).length = 24 by simp [intVals, hL]]; kernel_rfl

set_option maxHeartbeats 1000000 in
theorem Contains_v {w1 w2 : World} {b1 o1 b2 o2 : Nat} (c1 c2 : Nat) {l1 l2 : List Int} (w : World) (h1 : VA w1 b1 o1 l1) (e1 : Ext w1 w) (h2 : VA w2 b2 o2 l2) (e2 : Ext w2 w) :
  Calls Tryd.prog 23 #[.agg #[.slice (some ⟨b1, o1, none⟩) 24 c1], .agg #[.slice (some ⟨b2, o2, none⟩) 24 c2]] w fun e w' => e = .returned (.bool (Globe.containsB l1 l2)) ∧ Ext w w' := by
 replace h1 := h1.ext e1; replace h2 := h2.ext e2; clear e1 e2
 have hr : Globe.containsB l1 l2 = decide (Globe.lessL l2 l1 = Globe.zeroL) := by rw [Globe.containsB, h1.2, h2.2]; rfl
 have Hr := Lib.hid hr; clear hr
 have ha1 := arrayAt_c
 have hL : (Globe.lessL l2 l1).length = 24 := Globe.rowsF_len _
 have heq := @eql24 (Globe.lessL l2 l1) hL
 have HL := Lib.hid hL; clear hL
 go_enter Tryd.func23, Tryd.ntmps23
 go_wp2_with (first | (go_at_call 48; refine (Less_v _ _ _ h2 (by (repeat' (first | (with_reducible assumption) | (with_reducible exact Ext.refl _) | (with_reducible refine Ext.alloc ?_ _) | (with_reducible refine Ext.drew ?_) | (with_reducible refine Ext.drewN ?_ _) | (with_reducible refine Ext.setCell ?_ ?_ _) | (with_reducible refine Ext.trans ?_ (by assumption)) | go_size))) h1 (by (repeat' (first | (with_reducible assumption) | (with_reducible exact Ext.refl _) | (with_reducible refine Ext.alloc ?_ _) | (with_reducible refine Ext.drew ?_) | (with_reducible refine Ext.drewN ?_ _) | (with_reducible refine Ext.setCell ?_ ?_ _) | (with_reducible refine Ext.trans ?_ (by assumption)) | go_size)))).mono ?_; rintro e w1 ⟨B, k, rfl, hB, hr, hv, hb⟩; have hc := hb.cellE; have hf := hb.frozenE; have hz := hb.size; have ha := alloc_keeps w1; (try simp only [World.size_alloc] at hc hf hz); (try simp only [World.size_setCell] at hc hf hz); (try simp only [World.size_drew] at hc hf hz); have hrg := (hr.ext (Ext.alloc (Ext.refl _) (.cells #[.slice (some ⟨B, 0, none⟩) 24 k] 26))).range; clear hr hv) | (refine wpList_load_g (op := ⟨some 19, Op.load 82 (Operand.tmp 18), _, _, _, _⟩) (by kernel_rfl) 82 (Operand.tmp 18) rfl _ 0 rfl _ (.array 24 3) hrg Tryd.underlying82 rfl (size24 HL.out) ?_))
 go_ret
 exact ⟨ret_bool Hr.out.symm, by (repeat' (first | (with_reducible assumption) | (with_reducible exact Ext.refl _) | (with_reducible refine Ext.alloc ?_ _) | (with_reducible refine Ext.drew ?_) | (with_reducible refine Ext.drewN ?_ _) | (with_reducible refine Ext.setCell ?_ ?_ _) | (with_reducible refine Ext.trans ?_ (by assumption)) | go_size))⟩
set_option maxHeartbeats 1000000 in
theorem Contains_n (a1 : Option Addr) (l1 : List Int) (n1 c1 : Nat) (v1 : Bool) (a2 : Option Addr) (l2 : List Int) (n2 c2 : Nat) (v2 : Bool) (w : World) (h1 : AA w a1 l1 n1 v1) (h2 : AA w a2 l2 n2 v2) (hv : (v1 && v2) = false) :
  Calls Tryd.prog 23 #[.agg #[.slice a1 n1 c1], .agg #[.slice a2 n2 c2]] w fun e w' => e = .returned (.bool false) ∧ Ext w w' := by
 have hv' : (v2 && v1) = false := by rw [Bool.and_comm]; exact hv
 clear hv
 go_enter Tryd.func23, Tryd.ntmps23
 go_wp2_with (go_at_call 48; refine (Less_n _ l2 _ _ v2 _ l1 _ _ v1 _ (h2.ext (by (repeat' (first | (with_reducible assumption) | (with_reducible exact Ext.refl _) | (with_reducible refine Ext.alloc ?_ _) | (with_reducible refine Ext.drew ?_) | (with_reducible refine Ext.drewN ?_ _) | (with_reducible refine Ext.setCell ?_ ?_ _) | (with_reducible refine Ext.trans ?_ (by assumption)) | go_size)))) (h1.ext (by (repeat' (first | (with_reducible assumption) | (with_reducible exact Ext.refl _) | (with_reducible refine Ext.alloc ?_ _) | (with_reducible refine Ext.drew ?_) | (with_reducible refine Ext.drewN ?_ _) | (with_reducible refine Ext.setCell ?_ ?_ _) | (with_reducible refine Ext.trans ?_ (by assumption)) | go_size)))) hv').mono ?_; rintro e w1 ⟨rfl, hb⟩; have hc := hb.cellE; have hf := hb.frozenE; have hz := hb.size; have ha := alloc_keeps w1; (try simp only [World.size_alloc] at hc hf hz); (try simp only [World.size_setCell] at hc hf hz); (try simp only [World.size_drew] at hc hf hz))
 go_ret
 exact ⟨rfl, by (repeat' (first | (with_reducible assumption) | (with_reducible exact Ext.refl _) | (with_reducible refine Ext.alloc ?_ _) | (with_reducible refine Ext.drew ?_) | (with_reducible refine Ext.drewN ?_ _) | (with_reducible refine Ext.setCell ?_ ?_ _) | (with_reducible refine Ext.trans ?_ (by assumption)) | go_size))⟩
theorem Contains_c {w1 w2 : World} {a1 : Option Addr} {l1 : List Int} {n1 : Nat} (c1 : Nat) {v1 : Bool} {a2 : Option Addr} {l2 : List Int} {n2 : Nat} (c2 : Nat) {v2 : Bool} (w : World) (h1 : AA w1 a1 l1 n1 v1) (e1 : Ext w1 w) (h2 : AA w2 a2 l2 n2 v2) (e2 : Ext w2 w) :
    Calls Tryd.prog 23 #[.agg #[.slice a1 n1 c1], .agg #[.slice a2 n2 c2]] w fun e w' => e = .returned (.bool (Globe.containsB l1 l2)) ∧ Ext w w' := by
  replace h1 := h1.ext e1; replace h2 := h2.ext e2
  cases hq : (v1 && v2)
  · have hr : Globe.containsB l1 l2 = false := by rw [Globe.containsB, h1.2.2.2, h2.2.2.2, hq]; rfl
    rw [hr]
    exact Contains_n a1 l1 n1 c1 v1 a2 l2 n2 c2 v2 w h1 h2 hq
  · obtain ⟨rfl, rfl⟩ := Bool.and_eq_true_iff.1 hq
    obtain ⟨b1, o1, rfl, rfl, r1⟩ := h1.va
    obtain ⟨b2, o2, rfl, rfl, r2⟩ := h2.va
    exact Contains_v c1 c2 w r1 (Ext.refl _) r2 (Ext.refl _)

end Go.Proofs.YtajdohcgjgknmaaDoor

/- Contract of package product: Valid. -/
namespace Go.Proofs.YtajdohcgjgknmaaDoor
open Go.RowKit

theorem PcsAt.get {w : World} {b o n : Nat} {l : List Prod.Pc} (h : PcsAt w (some ⟨b, o, none⟩) n l) {i : Nat} (hi : i < n) :
  ∃ (p : Prod.Pc) (ar : Option Addr) (k c : Nat), l[i]? = some p ∧ w.cell? ⟨b, o + i * 4, none⟩ = some (.int .i64 p.im) ∧ w.cell? ⟨b, o + i * 4 + 1, none⟩ = some (.int .i64 p.t) ∧ w.cell? ⟨b, o + i * 4 + 2, none⟩ = some (.bool p.cl) ∧
   w.cell? ⟨b, o + i * 4 + 3, none⟩ = some (.slice ar k c) := by
 obtain ⟨b', o', p, ar, k, c, e, h1, h2, h3, h4, h5, _⟩ := h.at hi
 cases e
 exact ⟨p, ar, k, c, h1, h2, h3, h4, h5⟩
theorem Contains_q {w1 w2 : World} {a1 : Option Addr} {l1 : List Int} {n1 : Nat} (c1 : Nat) {v1 : Bool} {a2 : Option Addr} {l2 : List Int} {n2 : Nat} (c2 : Nat) {v2 r : Bool} (w : World) (h1 : AA w1 a1 l1 n1 v1) (e1 : Ext w1 w) (h2 : AA w2 a2 l2 n2 v2) (e2 : Ext w2 w) (hr : Globe.containsB l1 l2 = r) :
  Calls Tryd.prog 23 #[.agg #[.slice a1 n1 c1], .agg #[.slice a2 n2 c2]] w fun e w' => e = .returned (.bool r) ∧ Ext w w' := hr ▸ Contains_c c1 c2 w h1 e1 h2 e2
namespace Prod
theorem vGo_step {F : List Int} {pre l : List Pc} {i : Nat} {p : Pc} (hp : l[i]? = some p) : vGo F pre (l.drop i) = (stepOk F pre p && vGo (Globe.lessL F p.rw) (pre ++ [p]) (l.drop (i + 1))) := by
 obtain ⟨hi, rfl⟩ := List.getElem?_eq_some_iff.1 hp
 rw [List.drop_eq_getElem_cons hi, vGo]
theorem noC_eq {l : List Int} (h : noC l = true) : (((Globe.cellsTo l 24).length : Nat) : Int) = 0 := by unfold noC at h; rw [decide_eq_true_eq] at h; omega
theorem noC_ne {l : List Int} (h : noC l = false) : ¬ (((Globe.cellsTo l 24).length : Nat) : Int) = 0 := by unfold noC at h; rw [decide_eq_false_iff_not] at h; omega
theorem step_cases (F : List Int) (pre : List Pc) (p : Pc) : okP p = false ∨ (okP p = true ∧ noC p.rw = true) ∨ (okP p = true ∧ noC p.rw = false ∧ Globe.containsB F p.rw = false) ∨ (okP p = true ∧ noC p.rw = false ∧ Globe.containsB F p.rw = true ∧ pre = pre) := by
 cases okP p <;> cases noC p.rw <;> cases Globe.containsB F p.rw <;> simp
theorem step_first {F : List Int} {pre : List Pc} {p : Pc} (h1 : okP p = true) (h2 : noC p.rw = false) (h3 : Globe.containsB F p.rw = true) (h4 : pre = []) : stepOk F pre p = !pre.any fun q => decide (q.im = p.im) := by
 subst h4; simp [stepOk, h1, h2, h3]
theorem step_later {F : List Int} {pre : List Pc} {p p0 : Pc} (h1 : okP p = true) (h2 : noC p.rw = false) (h3 : Globe.containsB F p.rw = true) (h4 : pre.getLast? = some p0) (h5 : better p p0 = true) : stepOk F pre p = !pre.any fun q => decide (q.im = p.im) := by
 simp [stepOk, h1, h2, h3, h4, h5]
theorem step_worse {F : List Int} {pre : List Pc} {p p0 : Pc} (h4 : pre.getLast? = some p0) (h5 : better p p0 = false) : stepOk F pre p = false := by
 simp [stepOk, h4, h5]
theorem take_last {l : List Pc} {i : Nat} (h0 : 0 < i) (hi : i ≤ l.length) : (l.take i).getLast? = l[i - 1]? := by
 rw [List.getLast?_eq_getElem?, List.length_take, List.getElem?_take, Nat.min_eq_left hi, if_pos (by omega)]
end Prod
theorem rank_c {x y : Prod.Pc} {a1 a2 : Option Addr} {k1 c1 k2 c2 : Nat} (w : World) : Calls Tryd.prog 47 #[.agg #[.int .i64 x.im, .int .i64 x.t, .bool x.cl, .slice a1 k1 c1], .agg #[.int .i64 y.im, .int .i64 y.t, .bool y.cl, .slice a2 k2 c2]] w fun e w' => e = .returned (.int .i64 (Prod.rk x.cl x.t x.im y.cl y.t y.im)) ∧ Ext w w' := (rank_g w).mono fun _ _ ⟨h, g⟩ => ⟨h, g.ext⟩
set_option maxRecDepth 1000000 in
set_option maxHeartbeats 4000000 in
theorem pValid_c {w1 w2 : World} {id ver : Int} {ar : List Int} {ps : List Prod.Pc} {a1 a : Option Addr} {n1 n : Nat} (c1 : Nat) {c : Nat} (w : World) (hnc : n ≤ c) (hA : AA w1 a1 ar n1 (Globe.validL ar)) (e1 : Ext w1 w) (hP : PcsAt w2 a n ps) (e2 : Ext w2 w) (hT : Tab w) : Calls Tryd.prog 28 #[.agg #[.int .i64 id, .int .i64 ver, .slice a1 n1 c1, .slice a n c]] w fun e w' => e = .returned (.bool (Prod.validP id ver ar ps)) ∧ Ext w w' := by
 replace hA := hA.ext e1; replace hP := hP.ext e2; have hnb := hP.max; have hln := hP.len; clear e1 e2
 refine calls_cw 84 [(0, .agg #[.int .i64 id, .int .i64 ver, .slice a1 n1 c1, .slice a n c])] Tryd.func28 rfl Tryd.ntmps28 (by kernel_rfl) (by kernel_rfl) (fun L => ?_)
 have hE : Ext w w := Ext.refl w
 refine cw_seq ?_; refine cw_plain ?_
 refine pS (sn_new (us := #[.int .i64 id, .int .i64 ver, .slice a1 n1 c1, .slice a n c]) (t := 31) (by kernel_rfl) ?_)
 intro O1 X2 hzO1 hyO1 hb hbx; have ⟨bO1_0, bO1_1, bO1_2, bO1_3⟩ := bx4 hbx; clear hbx
 replace hE := hE.trans hb; have hs3 := hb.size; clear hb; have lt4 := bO1_0.lt; refine pT (.bool false) ?_; refine pl_nil ?_; refine qw_then ?_; refine cw_seq ?_; refine cw_seq ?_; refine cw_plain ?_; refine pT (.pointer (some ⟨O1, 0, none⟩)) ?_
 refine pU (.int .i64 id) (ex_load rfl (by kernel_rfl) (ld3 (bO1_0.1))) ?_
 rcases Bool.eq_false_or_eq_true (Globe.inB id 0 63) with hb5 | hb5
 ·
  refine pS (sn_call (f := 53) (args := #[.int .i64 id, .int .i64 0, .int .i64 63]) (by kernel_rfl) ((in_r (r := true) id 0 63 _ (hb5)).mono ?_))
  rintro e w6 ⟨rfl, hb⟩
  replace hE := hE.trans hb; replace bO1_0 := BoxAt.ext hb bO1_0; replace bO1_1 := BoxAt.ext hb bO1_1; replace bO1_2 := BoxAt.ext hb bO1_2; replace bO1_3 := BoxAt.ext hb bO1_3; have hs7 := hb.size; clear hb
  refine ⟨_, rfl, ?_⟩
  refine pT (.bool false) ?_; refine pT (.bool false) ?_; refine pT (.pointer (some ⟨O1, 1, none⟩)) ?_
  refine pU (.int .i64 ver) (ex_load rfl (by kernel_rfl) (ld3 (bO1_1.1))) ?_
  rcases Bool.eq_false_or_eq_true (Globe.inB ver 1 100) with hb8 | hb8
  ·
   refine pS (sn_call (f := 53) (args := #[.int .i64 ver, .int .i64 1, .int .i64 100]) (by kernel_rfl) ((in_r (r := true) ver 1 100 _ (hb8)).mono ?_))
   rintro e w9 ⟨rfl, hb⟩
   replace hE := hE.trans hb; replace bO1_0 := BoxAt.ext hb bO1_0; replace bO1_1 := BoxAt.ext hb bO1_1; replace bO1_2 := BoxAt.ext hb bO1_2; replace bO1_3 := BoxAt.ext hb bO1_3; have hs10 := hb.size; clear hb
   refine ⟨_, rfl, ?_⟩
   refine pT (.bool false) ?_; refine pT (.bool false) ?_; refine pT (.bool false) ?_; refine pT (.pointer (some ⟨O1, 2, none⟩)) ?_
   refine pU (.agg #[.slice a1 n1 c1]) (ex_load rfl (by kernel_rfl) (ld26 (bO1_2.1))) ?_
   rcases Bool.eq_false_or_eq_true (Globe.validL ar) with hb11 | hb11
   ·
    refine pS (sn_call (f := 31) (args := #[.agg #[.slice a1 n1 c1]]) (by kernel_rfl) ((Valid_q (r := true) _ _ (hA) hE hb11).mono ?_))
    rintro e w12 ⟨rfl, hb⟩
    replace hE := hE.trans hb; replace bO1_0 := BoxAt.ext hb bO1_0; replace bO1_1 := BoxAt.ext hb bO1_1; replace bO1_2 := BoxAt.ext hb bO1_2; replace bO1_3 := BoxAt.ext hb bO1_3; have hs13 := hb.size; clear hb
    refine ⟨_, rfl, ?_⟩
    refine pT (.bool false) ?_; refine pT (.bool false) ?_; refine pT (.bool false) ?_; refine pT (.pointer (some ⟨O1, 3, none⟩)) ?_
    refine pU (.slice a n c) (ex_load rfl (by kernel_rfl) (ld28 (bO1_3.1))) ?_
    refine pT (.int .i64 (((n : Nat) : Int) : Int)) ?_
    by_cases hc14 : (((n : Nat) : Int) : Int) > (24 : Int)
    ·
     refine pU (.bool true) (ev_dec (show _ = Result.ok (Next.value (Value.bool (decide ((((n : Nat) : Int) : Int) > (24 : Int))))) _ from by kernel_rfl) (hc14)) ?_
     refine pT (.bool true) ?_; refine pl_nil ?_; refine qw_then ?_; refine cC2 1 27 (fun L => ?_)
     refine cw_t (by kernel_rfl) ?_
     refine cw_seq ?_; refine cw_plain ?_; refine pT (.bool false) ?_; refine pl_nil ?_; refine qw_then ?_
     refine cw_ret ?_
     refine qw_then_ret ?_
     refine qw_ret [.bool false] rfl ⟨(by kernel_rfl), trivial⟩ ?_
     exact ⟨congrArg (fun b => Ending.returned (Value.bool b)) (show Prod.validP id ver ar ps = false by simp [Prod.validP, Prod.headOk, hln, hb5, hb8, hb11] <;> (intro hq; omega)).symm, hE⟩
    ·
     refine pU (.bool false) (ev_ndec (show _ = Result.ok (Next.value (Value.bool (decide ((((n : Nat) : Int) : Int) > (24 : Int))))) _ from by kernel_rfl) (hc14)) ?_
     refine pT (.bool false) ?_; refine pl_nil ?_; refine qw_then ?_; refine cC2 1 27 (fun L => ?_)
     refine cw_f (by kernel_rfl) ?_
     refine cw_skip ?_
     refine qw_then ?_; refine cw_seq ?_
     have hva : Globe.validL ar = true := hb11
     obtain ⟨b15, o16, rfl, rfl, hV17⟩ := va_of hA hva
     have lt18 := hV17.lt
     have hh : Prod.headOk id ver ar ps.length = true := by simp [Prod.headOk, hln, hb5, hb8, hb11]; omega
     refine cw_plain ?_; refine pT (.pointer (some ⟨O1, 2, none⟩)) ?_
     refine pU (.agg #[.slice (some ⟨b15, o16, none⟩) 24 c1]) (ex_load rfl (by kernel_rfl) (ld26 (bO1_2.1))) ?_
     refine pS (sn_new (us := #[.slice none 0 0]) (t := 26) (by kernel_rfl) ?_)
     intro O19 X20 hzO19 hyO19 hb hbx; have bO19_0 := bx1 hbx; clear hbx
     replace hE := hE.trans hb; replace bO1_0 := BoxAt.ext hb bO1_0; replace bO1_1 := BoxAt.ext hb bO1_1; replace bO1_2 := BoxAt.ext hb bO1_2; replace bO1_3 := BoxAt.ext hb bO1_3; have hs21 := hb.size; clear hb; have lt22 := bO19_0.lt
     refine pP (sn_set (O := O19) (j := 0) (v := .slice (some ⟨b15, o16, none⟩) 24 c1) (ex_store (p := .pointer (some ⟨O19, 0, none⟩)) (v := .agg #[.slice (some ⟨b15, o16, none⟩) 24 c1]) rfl (by kernel_rfl) (by kernel_rfl) (st26 bO19_0.1 bO19_0.2)) bO19_0 ?_)
     intro X23 ho hv0 hk; replace hE := ho.ext hE (T (T hs3 (T hs7 (T hs10 hs13))) (Nat.le_of_eq hzO19))
     have q9 := fun (j : Nat) (v : Value) (h : BoxAt _ O1 j v) => ho.box (Nat.ne_of_gt (Nat.lt_of_lt_of_le lt4 (T (T hs7 (T hs10 hs13)) (Nat.le_of_eq hzO19)))) h
     replace bO1_0 := q9 _ _ bO1_0; replace bO1_1 := q9 _ _ bO1_1; replace bO1_2 := q9 _ _ bO1_2; replace bO1_3 := q9 _ _ bO1_3; clear q9; have hs24 : X20.heap.size ≤ X23.heap.size := Nat.le_of_eq ho.size.symm; clear ho hk bO19_0; have bO19_0 := hv0; clear hv0; refine pl_nil ?_; refine qw_then ?_; refine cw_seq ?_; refine cw_seq ?_; refine cw_plain ?_; refine pT (.pointer (some ⟨O1, 3, none⟩)) ?_
     refine pU (.slice a n c) (ex_load rfl (by kernel_rfl) (ld28 (bO1_3.1))) ?_
     refine pT (.int .i64 (((n : Nat) : Int) : Int)) ?_; refine pT (.int .i64 0) ?_; refine pl_nil ?_; refine qw_then ?_
     refine cw_block ?_
     refine cw_loop [1, 3, 31, 32, 33] (fun ws' wr m => ∃ i : Nat, ∃ BB : Nat, ∃ oB : Nat, ∃ kB : Nat, ws' = [(1, .pointer (some ⟨O1, 0, none⟩)), (3, .pointer (some ⟨O19, 0, none⟩)), (31, .slice a n c), (32, .int .i64 (((n : Nat) : Int) : Int)), (33, .int .i64 (((i : Nat) : Int) : Int))] ∧ m = n - i ∧ X23.heap.size ≤ wr.heap.size ∧ Ext w wr ∧ BoxAt wr O1 0 (.int .i64 id) ∧ BoxAt wr O1 1 (.int .i64 ver) ∧ BoxAt wr O1 2 (.slice (some ⟨b15, o16, none⟩) 24 c1) ∧ BoxAt wr O1 3 (.slice a n c) ∧ BoxAt wr O19 0 (.slice (some ⟨BB, oB, none⟩) 24 kB) ∧ VA wr BB oB (Prod.rest ar (ps.take i)) ∧ i ≤ n ∧ Prod.vGo ar [] ps = Prod.vGo (Prod.rest ar (ps.take i)) (ps.take i) (ps.drop i) ∧ Hid (O19 ≠ BB)) (ws0 := [(1, .pointer (some ⟨O1, 0, none⟩)), (3, .pointer (some ⟨O19, 0, none⟩)), (31, .slice a n c), (32, .int .i64 (((n : Nat) : Int) : Int)), (33, .int .i64 0)]) (by kernel_rfl) _ ⟨0, b15, o16, c1, rfl, rfl, Nat.le_refl _, hE, bO1_0, bO1_1, bO1_2, bO1_3, bO19_0, (hV17.ext hE), by omega, rfl, Lib.hid (Nat.ne_of_gt (Nat.lt_of_lt_of_le lt18 (T (T hs3 (T hs7 (T hs10 hs13))) (Nat.le_of_eq hzO19))))⟩ ?_
     clear bO1_0 bO1_1 bO1_2 bO1_3 bO19_0 hE
     rintro m27 L ws w26 ⟨i, BB, oB, kB, rfl, rfl, hs25, hE, bO1_0, bO1_1, bO1_2, bO1_3, b3, vB, hi, Hv, hne⟩
     have lt28 := vB.lt
     by_cases hlt : i < n
     ·
      obtain ⟨b29, o30, p, ar31, k32, c33, rfl, hx34, hp35, hp36, hp37, hp38, hA39⟩ := hP.at hlt
      have hst := Prod.vGo_step (F := Prod.rest ar (ps.take i)) (pre := ps.take i) hx34
      have htk : ps.take (i + 1) = ps.take i ++ [p] := by rw [List.take_add_one, hx34]; rfl
      have hrs : Prod.rest ar (ps.take (i + 1)) = Globe.lessL (Prod.rest ar (ps.take i)) p.rw := by rw [htk]; exact Prod.rest_snoc _ _ _
      refine cw_seq ?_; refine cw_plain ?_
      refine pU (.bool true) (ev_dec (show _ = Result.ok (Next.value (Value.bool (decide ((((i : Nat) : Int) : Int) < (((n : Nat) : Int) : Int))))) _ from by kernel_rfl) (by omega)) ?_
      refine pl_nil ?_; refine qw_then ?_; refine cw_seq ?_
      refine cw_t (by kernel_rfl) ?_
      refine cw_skip ?_
      refine qw_then ?_; refine cw_seq ?_
      refine cw_block ?_
      refine cw_seq ?_; refine cw_plain ?_; refine pT (.int .i64 (((i : Nat) : Int) : Int)) ?_
      refine pU (.pointer (some ⟨b29, o30 + i * 4, none⟩)) (ex_index (p := .slice (some ⟨b29, o30, none⟩) n c) (i := .int .i64 ((i : Nat) : Int)) rfl (by kernel_rfl) (by kernel_rfl) (ix28 (k := i) (by omega))) ?_
      refine pU (.agg #[.int .i64 p.im, .int .i64 p.t, .bool p.cl, .slice ar31 k32 c33]) (ex_load rfl (by kernel_rfl) (ld41 ((hE.cell hp35)) ((hE.cell hp36)) ((hE.cell hp37)) ((hE.cell hp38)))) ?_
      refine pS (sn_new (us := #[.int .i64 0, .int .i64 0, .bool false, .slice none 0 0]) (t := 41) (by kernel_rfl) ?_)
      intro O40 X41 hzO40 hyO40 hb hbx; have ⟨bO40_0, bO40_1, bO40_2, bO40_3⟩ := bx4 hbx; clear hbx
      replace hE := hE.trans hb; replace bO1_0 := BoxAt.ext hb bO1_0; replace bO1_1 := BoxAt.ext hb bO1_1; replace bO1_2 := BoxAt.ext hb bO1_2; replace bO1_3 := BoxAt.ext hb bO1_3; replace b3 := BoxAt.ext hb b3; replace vB := vB.ext hb; have hs42 := hb.size; clear hb; have lt43 := bO40_0.lt; refine pT (.int .i64 (((i : Nat) : Int) : Int)) ?_
      refine pP (sn_setK4 (O := O40) (j := 0) (v0 := .int .i64 p.im) (v1 := .int .i64 p.t) (v2 := .bool p.cl) (v3 := .slice ar31 k32 c33) (ex_store (p := .pointer (some ⟨O40, 0, none⟩)) (v := .agg #[.int .i64 p.im, .int .i64 p.t, .bool p.cl, .slice ar31 k32 c33]) rfl (by kernel_rfl) (by kernel_rfl) (st41 bO40_0.1 bO40_0.2 bO40_1.1 bO40_1.2 bO40_2.1 bO40_2.2 bO40_3.1 bO40_3.2)) bO40_0 bO40_1 bO40_2 bO40_3 ?_)
      intro X44 ho hv0 hv1 hv2 hv3 hk; replace hE := ho.ext hE (T (T hs3 (T hs7 (T hs10 (T hs13 (T hs21 (T hs24 hs25)))))) (Nat.le_of_eq hzO40))
      have q9 := fun (j : Nat) (v : Value) (h : BoxAt _ O1 j v) => ho.box (Nat.ne_of_gt (Nat.lt_of_lt_of_le lt4 (T (T hs7 (T hs10 (T hs13 (T hs21 (T hs24 hs25))))) (Nat.le_of_eq hzO40)))) h
      replace bO1_0 := q9 _ _ bO1_0; replace bO1_1 := q9 _ _ bO1_1; replace bO1_2 := q9 _ _ bO1_2; replace bO1_3 := q9 _ _ bO1_3; clear q9; replace b3 := ho.box (Nat.ne_of_gt (Nat.lt_of_lt_of_le lt22 (T (T hs24 hs25) (Nat.le_of_eq hzO40)))) b3; replace vB := ho.va (Nat.ne_of_gt (Nat.lt_of_lt_of_le lt28 (Nat.le_of_eq hzO40))) vB; have hs45 : X41.heap.size ≤ X44.heap.size := Nat.le_of_eq ho.size.symm; clear ho hk bO40_0 bO40_1 bO40_2 bO40_3; have bO40_0 := hv0; clear hv0; have bO40_1 := hv1; clear hv1; have bO40_2 := hv2; clear hv2; have bO40_3 := hv3; clear hv3; refine pl_nil ?_; refine qw_then ?_; refine cw_seq ?_; refine cw_seq ?_
      obtain ⟨q, hq⟩ : ∃ q, q = Prod.stepOk (Prod.rest ar (ps.take i)) (ps.take i) p := ⟨_, rfl⟩
      rcases Prod.step_cases (Prod.rest ar (ps.take i)) (ps.take i) p with h1 | ⟨h1, h2⟩ | ⟨h1, h2, h3⟩ | ⟨h1, h2, h3, h4⟩
      ·
       have hso : Prod.stepOk (Prod.rest ar (ps.take i)) (ps.take i) p = false := by simp [Prod.stepOk, h1]
       refine cw_draw [(some 38, [5], []), (some 39, [38], [0]), (some 40, [39], [1]), (some 41, [40], [2, 1]), (some 42, [5, 41], [3]), (some 43, [42, 41], [4, 3]), (some 44, [43, 41], [5, 3, 3]), (some 45, [44, 41], [6, 3]), (some 46, [41, 45], [3, 7]), (some 47, [46], [8, 6]), (some 48, [3, 47], [9]), (some 49, [5, 47], [9]), (some 50, [49, 47], [11, 9]), (some 51, [48, 50, 47], [10, 12, 9, 9]), (some 52, [51, 47], [13, 9]), (some 53, [47, 52], [9, 14]), (some 54, [53], [15, 13]), (some 55, [4, 54], [16]), (some 56, [55, 54], [17, 16]), (some 57, [56, 54], [18, 16, 16]), (some 58, [5, 57], [19]), (some 59, [1, 57], [19]), (some 60, [59, 57], [21, 19]), (some 61, [4, 57], [19]), (some 62, [61, 57], [23, 19]), (some 63, [60, 62, 57], [22, 24, 19]), (some 64, [63, 57], [25, 19]), (some 65, [58, 64, 57], [20, 26, 19, 19]), (some 66, [65, 57], [27, 19]), (some 67, [57, 66, 54], [19, 28, 16]), (some 68, [54, 67], [16, 29]), (some 69, [68], [30, 27]), (some 70, [1, 69], [31]), (some 71, [70, 69], [32, 31]), (some 72, [4, 69], [31]), (some 73, [71, 72, 69], [33, 34, 31]), (some 74, [5, 69], [31]), (some 75, [74, 69], [36, 31]), (some 76, [75, 69], [37, 31, 31]), (some 77, [73, 76, 69], [35, 38, 38, 31]), (some 78, [69, 77], [31, 39])] (fun w' => w'.cell? ⟨O40, 0, none⟩ = some (.int .i64 p.im) ∧ w'.cell? ⟨O40, 1, none⟩ = some (.int .i64 p.t) ∧ w'.cell? ⟨O40, 2, none⟩ = some (.bool p.cl) ∧ w'.cell? ⟨O40, 3, none⟩ = some (.slice ar31 k32 c33)) (by kernel_rfl) (by kernel_rfl) (by kernel_rfl) (by kernel_rfl) ((calm_then (calm_then (calm_block (calm_then (calm_then (calm_block (calm_then calm_body)))))))) (⟨bO40_0.1, bO40_1.1, bO40_2.1, bO40_3.1⟩) (fun ops Q X46 hb hL hR hK => ?_)
       replace hE := hE.trans hb; replace bO1_0 := BoxAt.ext hb bO1_0; replace bO1_1 := BoxAt.ext hb bO1_1; replace bO1_2 := BoxAt.ext hb bO1_2; replace bO1_3 := BoxAt.ext hb bO1_3; replace b3 := BoxAt.ext hb b3; replace vB := vB.ext hb; replace bO40_0 := BoxAt.ext hb bO40_0; replace bO40_1 := BoxAt.ext hb bO40_1; replace bO40_2 := BoxAt.ext hb bO40_2; replace bO40_3 := BoxAt.ext hb bO40_3; have hs47 := hb.size; clear hb
       refine wT 0 (.agg #[.int .i64 p.im, .int .i64 p.t, .bool p.cl, .slice ar31 k32 c33]) hR (fun w hS => ex_load rfl (by kernel_rfl) (ld41 (hS.1) (hS.2.1) (hS.2.2.1) (hS.2.2.2))) (⟨bO40_0.1, bO40_1.1, bO40_2.1, bO40_3.1⟩) ?_
       refine wS 1 hR (sn_call (f := 32) (args := #[.agg #[.int .i64 p.im, .int .i64 p.t, .bool p.cl, .slice ar31 k32 c33]]) (by kernel_rfl) ((right_r (x := p) (r := false) _ (hA39) hE h1).mono ?_))
       rintro e w48 ⟨rfl, hb⟩
       replace hE := hE.trans hb; replace bO1_0 := BoxAt.ext hb bO1_0; replace bO1_1 := BoxAt.ext hb bO1_1; replace bO1_2 := BoxAt.ext hb bO1_2; replace bO1_3 := BoxAt.ext hb bO1_3; replace b3 := BoxAt.ext hb b3; replace vB := vB.ext hb; replace bO40_0 := BoxAt.ext hb bO40_0; replace bO40_1 := BoxAt.ext hb bO40_1; replace bO40_2 := BoxAt.ext hb bO40_2; replace bO40_3 := BoxAt.ext hb bO40_3; have hs49 := hb.size; clear hb
       refine ⟨_, rfl, ⟨bO40_0.1, bO40_1.1, bO40_2.1, bO40_3.1⟩, ?_⟩
       refine wT 2 (.bool true) hR (fun w _ => by kernel_rfl) (⟨bO40_0.1, bO40_1.1, bO40_2.1, bO40_3.1⟩) ?_
       refine wT 3 (.bool true) hR (fun w _ => by kernel_rfl) (⟨bO40_0.1, bO40_1.1, bO40_2.1, bO40_3.1⟩) ?_
       refine wd_skip 4 hR rfl (by kernel_rfl) rfl (by kernel_rfl) (⟨bO40_0.1, bO40_1.1, bO40_2.1, bO40_3.1⟩) ?_
       refine wd_skip 5 hR rfl (by kernel_rfl) rfl (by kernel_rfl) (⟨bO40_0.1, bO40_1.1, bO40_2.1, bO40_3.1⟩) ?_
       refine wd_skip 6 hR rfl (by kernel_rfl) rfl (by kernel_rfl) (⟨bO40_0.1, bO40_1.1, bO40_2.1, bO40_3.1⟩) ?_
       refine wd_skip 7 hR rfl (by kernel_rfl) rfl (by kernel_rfl) (⟨bO40_0.1, bO40_1.1, bO40_2.1, bO40_3.1⟩) ?_
       refine wT 8 (.bool true) hR (fun w _ => by kernel_rfl) (⟨bO40_0.1, bO40_1.1, bO40_2.1, bO40_3.1⟩) ?_
       refine wT 9 (.bool true) hR (fun w _ => by kernel_rfl) (⟨bO40_0.1, bO40_1.1, bO40_2.1, bO40_3.1⟩) ?_
       refine wd_skip 10 hR rfl (by kernel_rfl) rfl (by kernel_rfl) (⟨bO40_0.1, bO40_1.1, bO40_2.1, bO40_3.1⟩) ?_
       refine wd_skip 11 hR rfl (by kernel_rfl) rfl (by kernel_rfl) (⟨bO40_0.1, bO40_1.1, bO40_2.1, bO40_3.1⟩) ?_
       refine wd_skip 12 hR rfl (by kernel_rfl) rfl (by kernel_rfl) (⟨bO40_0.1, bO40_1.1, bO40_2.1, bO40_3.1⟩) ?_
       refine wd_skip 13 hR rfl (by kernel_rfl) rfl (by kernel_rfl) (⟨bO40_0.1, bO40_1.1, bO40_2.1, bO40_3.1⟩) ?_
       refine wd_skip 14 hR rfl (by kernel_rfl) rfl (by kernel_rfl) (⟨bO40_0.1, bO40_1.1, bO40_2.1, bO40_3.1⟩) ?_
       refine wT 15 (.bool true) hR (fun w _ => by kernel_rfl) (⟨bO40_0.1, bO40_1.1, bO40_2.1, bO40_3.1⟩) ?_
       refine wT 16 (.bool true) hR (fun w _ => by kernel_rfl) (⟨bO40_0.1, bO40_1.1, bO40_2.1, bO40_3.1⟩) ?_
       refine wd_skip 17 hR rfl (by kernel_rfl) rfl (by kernel_rfl) (⟨bO40_0.1, bO40_1.1, bO40_2.1, bO40_3.1⟩) ?_
       refine wd_skip 18 hR rfl (by kernel_rfl) rfl (by kernel_rfl) (⟨bO40_0.1, bO40_1.1, bO40_2.1, bO40_3.1⟩) ?_
       refine wd_skip 19 hR rfl (by kernel_rfl) rfl (by kernel_rfl) (⟨bO40_0.1, bO40_1.1, bO40_2.1, bO40_3.1⟩) ?_
       refine wd_skip 20 hR rfl (by kernel_rfl) rfl (by kernel_rfl) (⟨bO40_0.1, bO40_1.1, bO40_2.1, bO40_3.1⟩) ?_
       refine wd_skip 21 hR rfl (by kernel_rfl) rfl (by kernel_rfl) (⟨bO40_0.1, bO40_1.1, bO40_2.1, bO40_3.1⟩) ?_
       refine wd_skip 22 hR rfl (by kernel_rfl) rfl (by kernel_rfl) (⟨bO40_0.1, bO40_1.1, bO40_2.1, bO40_3.1⟩) ?_
       refine wd_skip 23 hR rfl (by kernel_rfl) rfl (by kernel_rfl) (⟨bO40_0.1, bO40_1.1, bO40_2.1, bO40_3.1⟩) ?_
       refine wd_skip 24 hR rfl (by kernel_rfl) rfl (by kernel_rfl) (⟨bO40_0.1, bO40_1.1, bO40_2.1, bO40_3.1⟩) ?_
       refine wd_skip 25 hR rfl (by kernel_rfl) rfl (by kernel_rfl) (⟨bO40_0.1, bO40_1.1, bO40_2.1, bO40_3.1⟩) ?_
       refine wd_skip 26 hR rfl (by kernel_rfl) rfl (by kernel_rfl) (⟨bO40_0.1, bO40_1.1, bO40_2.1, bO40_3.1⟩) ?_
       refine wd_skip 27 hR rfl (by kernel_rfl) rfl (by kernel_rfl) (⟨bO40_0.1, bO40_1.1, bO40_2.1, bO40_3.1⟩) ?_
       refine wd_skip 28 hR rfl (by kernel_rfl) rfl (by kernel_rfl) (⟨bO40_0.1, bO40_1.1, bO40_2.1, bO40_3.1⟩) ?_
       refine wd_skip 29 hR rfl (by kernel_rfl) rfl (by kernel_rfl) (⟨bO40_0.1, bO40_1.1, bO40_2.1, bO40_3.1⟩) ?_
       refine wT 30 (.bool true) hR (fun w _ => by kernel_rfl) (⟨bO40_0.1, bO40_1.1, bO40_2.1, bO40_3.1⟩) ?_
       refine wT 31 (.bool true) hR (fun w _ => by kernel_rfl) (⟨bO40_0.1, bO40_1.1, bO40_2.1, bO40_3.1⟩) ?_
       refine wd_skip 32 hR rfl (by kernel_rfl) rfl (by kernel_rfl) (⟨bO40_0.1, bO40_1.1, bO40_2.1, bO40_3.1⟩) ?_
       refine wd_skip 33 hR rfl (by kernel_rfl) rfl (by kernel_rfl) (⟨bO40_0.1, bO40_1.1, bO40_2.1, bO40_3.1⟩) ?_
       refine wd_skip 34 hR rfl (by kernel_rfl) rfl (by kernel_rfl) (⟨bO40_0.1, bO40_1.1, bO40_2.1, bO40_3.1⟩) ?_
       refine wd_skip 35 hR rfl (by kernel_rfl) rfl (by kernel_rfl) (⟨bO40_0.1, bO40_1.1, bO40_2.1, bO40_3.1⟩) ?_
       refine wd_skip 36 hR rfl (by kernel_rfl) rfl (by kernel_rfl) (⟨bO40_0.1, bO40_1.1, bO40_2.1, bO40_3.1⟩) ?_
       refine wd_skip 37 hR rfl (by kernel_rfl) rfl (by kernel_rfl) (⟨bO40_0.1, bO40_1.1, bO40_2.1, bO40_3.1⟩) ?_
       refine wd_skip 38 hR rfl (by kernel_rfl) rfl (by kernel_rfl) (⟨bO40_0.1, bO40_1.1, bO40_2.1, bO40_3.1⟩) ?_
       refine wd_skip 39 hR rfl (by kernel_rfl) rfl (by kernel_rfl) (⟨bO40_0.1, bO40_1.1, bO40_2.1, bO40_3.1⟩) ?_
       refine wT 40 (.bool true) hR (fun w _ => by kernel_rfl) (⟨bO40_0.1, bO40_1.1, bO40_2.1, bO40_3.1⟩) ?_
       refine wd_end hL hR hK (by kernel_rfl) ?_
       refine qw_then ?_; refine cC7 1 3 5 31 32 33 78 (fun L => ?_)
       refine cw_t (by kernel_rfl) ?_
       refine cw_seq ?_; refine cw_plain ?_; refine pT (.bool false) ?_; refine pl_nil ?_; refine qw_then ?_
       refine cw_ret ?_
       refine qw_then_ret ?_
       refine qw_block_ret ?_
       refine qw_then_ret ?_
       refine qw_then_ret ?_
       refine qw_block_ret ?_
       refine qw_then_ret ?_
       refine qw_ret [.bool false] rfl ⟨(by kernel_rfl), trivial⟩ ?_
       exact ⟨congrArg (fun b => Ending.returned (Value.bool b)) (show Prod.validP id ver ar ps = false by unfold Prod.validP; rw [Hv, hst, hso]; simp).symm, hE⟩
      ·
       obtain ⟨b50, o51, rfl, rfl, hV52⟩ := va_of hA39 (Prod.okP_t.1 h1).2.2
       have lt53 := hV52.lt
       have hso : Prod.stepOk (Prod.rest ar (ps.take i)) (ps.take i) p = false := by simp [Prod.stepOk, h2]
       refine cw_draw [(some 38, [5], []), (some 39, [38], [0]), (some 40, [39], [1]), (some 41, [40], [2, 1]), (some 42, [5, 41], [3]), (some 43, [42, 41], [4, 3]), (some 44, [43, 41], [5, 3, 3]), (some 45, [44, 41], [6, 3]), (some 46, [41, 45], [3, 7]), (some 47, [46], [8, 6]), (some 48, [3, 47], [9]), (some 49, [5, 47], [9]), (some 50, [49, 47], [11, 9]), (some 51, [48, 50, 47], [10, 12, 9, 9]), (some 52, [51, 47], [13, 9]), (some 53, [47, 52], [9, 14]), (some 54, [53], [15, 13]), (some 55, [4, 54], [16]), (some 56, [55, 54], [17, 16]), (some 57, [56, 54], [18, 16, 16]), (some 58, [5, 57], [19]), (some 59, [1, 57], [19]), (some 60, [59, 57], [21, 19]), (some 61, [4, 57], [19]), (some 62, [61, 57], [23, 19]), (some 63, [60, 62, 57], [22, 24, 19]), (some 64, [63, 57], [25, 19]), (some 65, [58, 64, 57], [20, 26, 19, 19]), (some 66, [65, 57], [27, 19]), (some 67, [57, 66, 54], [19, 28, 16]), (some 68, [54, 67], [16, 29]), (some 69, [68], [30, 27]), (some 70, [1, 69], [31]), (some 71, [70, 69], [32, 31]), (some 72, [4, 69], [31]), (some 73, [71, 72, 69], [33, 34, 31]), (some 74, [5, 69], [31]), (some 75, [74, 69], [36, 31]), (some 76, [75, 69], [37, 31, 31]), (some 77, [73, 76, 69], [35, 38, 38, 31]), (some 78, [69, 77], [31, 39])] (fun w' => w'.cell? ⟨O40, 0, none⟩ = some (.int .i64 p.im) ∧ w'.cell? ⟨O40, 1, none⟩ = some (.int .i64 p.t) ∧ w'.cell? ⟨O40, 2, none⟩ = some (.bool p.cl) ∧ w'.cell? ⟨O40, 3, none⟩ = some (.slice (some ⟨b50, o51, none⟩) 24 c33)) (by kernel_rfl) (by kernel_rfl) (by kernel_rfl) (by kernel_rfl) ((calm_then (calm_then (calm_block (calm_then (calm_then (calm_block (calm_then calm_body)))))))) (⟨bO40_0.1, bO40_1.1, bO40_2.1, bO40_3.1⟩) (fun ops Q X54 hb hL hR hK => ?_)
       replace hE := hE.trans hb; replace bO1_0 := BoxAt.ext hb bO1_0; replace bO1_1 := BoxAt.ext hb bO1_1; replace bO1_2 := BoxAt.ext hb bO1_2; replace bO1_3 := BoxAt.ext hb bO1_3; replace b3 := BoxAt.ext hb b3; replace vB := vB.ext hb; replace bO40_0 := BoxAt.ext hb bO40_0; replace bO40_1 := BoxAt.ext hb bO40_1; replace bO40_2 := BoxAt.ext hb bO40_2; replace bO40_3 := BoxAt.ext hb bO40_3; have hs55 := hb.size; clear hb
       refine wT 0 (.agg #[.int .i64 p.im, .int .i64 p.t, .bool p.cl, .slice (some ⟨b50, o51, none⟩) 24 c33]) hR (fun w hS => ex_load rfl (by kernel_rfl) (ld41 (hS.1) (hS.2.1) (hS.2.2.1) (hS.2.2.2))) (⟨bO40_0.1, bO40_1.1, bO40_2.1, bO40_3.1⟩) ?_
       refine wS 1 hR (sn_call (f := 32) (args := #[.agg #[.int .i64 p.im, .int .i64 p.t, .bool p.cl, .slice (some ⟨b50, o51, none⟩) 24 c33]]) (by kernel_rfl) ((right_r (x := p) (r := true) _ (hV52.aa) hE h1).mono ?_))
       rintro e w56 ⟨rfl, hb⟩
       replace hE := hE.trans hb; replace bO1_0 := BoxAt.ext hb bO1_0; replace bO1_1 := BoxAt.ext hb bO1_1; replace bO1_2 := BoxAt.ext hb bO1_2; replace bO1_3 := BoxAt.ext hb bO1_3; replace b3 := BoxAt.ext hb b3; replace vB := vB.ext hb; replace bO40_0 := BoxAt.ext hb bO40_0; replace bO40_1 := BoxAt.ext hb bO40_1; replace bO40_2 := BoxAt.ext hb bO40_2; replace bO40_3 := BoxAt.ext hb bO40_3; have hs57 := hb.size; clear hb
       refine ⟨_, rfl, ⟨bO40_0.1, bO40_1.1, bO40_2.1, bO40_3.1⟩, ?_⟩
       refine wT 2 (.bool false) hR (fun w _ => by kernel_rfl) (⟨bO40_0.1, bO40_1.1, bO40_2.1, bO40_3.1⟩) ?_
       refine wT 3 (.bool false) hR (fun w _ => by kernel_rfl) (⟨bO40_0.1, bO40_1.1, bO40_2.1, bO40_3.1⟩) ?_
       refine wT 4 (.pointer (some ⟨O40, 3, none⟩)) hR (fun w _ => by kernel_rfl) (⟨bO40_0.1, bO40_1.1, bO40_2.1, bO40_3.1⟩) ?_
       refine wT 5 (.agg #[.slice (some ⟨b50, o51, none⟩) 24 c33]) hR (fun w hS => ex_load rfl (by kernel_rfl) (ld26 (hS.2.2.2))) (⟨bO40_0.1, bO40_1.1, bO40_2.1, bO40_3.1⟩) ?_
       refine wS 6 hR (sn_call (f := 18) (args := #[.agg #[.slice (some ⟨b50, o51, none⟩) 24 c33]]) (by kernel_rfl) ((Count_v _ _ hV52 hE (hT.ext hE)).mono ?_))
       rintro e w58 ⟨rfl, hb⟩
       replace hE := hE.trans hb; replace bO1_0 := BoxAt.ext hb bO1_0; replace bO1_1 := BoxAt.ext hb bO1_1; replace bO1_2 := BoxAt.ext hb bO1_2; replace bO1_3 := BoxAt.ext hb bO1_3; replace b3 := BoxAt.ext hb b3; replace vB := vB.ext hb; replace bO40_0 := BoxAt.ext hb bO40_0; replace bO40_1 := BoxAt.ext hb bO40_1; replace bO40_2 := BoxAt.ext hb bO40_2; replace bO40_3 := BoxAt.ext hb bO40_3; have hs59 := hb.size; clear hb
       refine ⟨_, rfl, ⟨bO40_0.1, bO40_1.1, bO40_2.1, bO40_3.1⟩, ?_⟩
       refine wT 7 (.bool true) hR (fun w _ => ev_eq (show _ = Result.ok (Next.value (Value.bool (((((Globe.cellsTo p.rw 24).length : Nat) : Int) : Int) == (0 : Int)))) _ from by kernel_rfl) (Prod.noC_eq h2)) (⟨bO40_0.1, bO40_1.1, bO40_2.1, bO40_3.1⟩) ?_
       refine wT 8 (.bool true) hR (fun w _ => by kernel_rfl) (⟨bO40_0.1, bO40_1.1, bO40_2.1, bO40_3.1⟩) ?_
       refine wT 9 (.bool true) hR (fun w _ => by kernel_rfl) (⟨bO40_0.1, bO40_1.1, bO40_2.1, bO40_3.1⟩) ?_
       refine wd_skip 10 hR rfl (by kernel_rfl) rfl (by kernel_rfl) (⟨bO40_0.1, bO40_1.1, bO40_2.1, bO40_3.1⟩) ?_
       refine wd_skip 11 hR rfl (by kernel_rfl) rfl (by kernel_rfl) (⟨bO40_0.1, bO40_1.1, bO40_2.1, bO40_3.1⟩) ?_
       refine wd_skip 12 hR rfl (by kernel_rfl) rfl (by kernel_rfl) (⟨bO40_0.1, bO40_1.1, bO40_2.1, bO40_3.1⟩) ?_
       refine wd_skip 13 hR rfl (by kernel_rfl) rfl (by kernel_rfl) (⟨bO40_0.1, bO40_1.1, bO40_2.1, bO40_3.1⟩) ?_
       refine wd_skip 14 hR rfl (by kernel_rfl) rfl (by kernel_rfl) (⟨bO40_0.1, bO40_1.1, bO40_2.1, bO40_3.1⟩) ?_
       refine wT 15 (.bool true) hR (fun w _ => by kernel_rfl) (⟨bO40_0.1, bO40_1.1, bO40_2.1, bO40_3.1⟩) ?_
       refine wT 16 (.bool true) hR (fun w _ => by kernel_rfl) (⟨bO40_0.1, bO40_1.1, bO40_2.1, bO40_3.1⟩) ?_
       refine wd_skip 17 hR rfl (by kernel_rfl) rfl (by kernel_rfl) (⟨bO40_0.1, bO40_1.1, bO40_2.1, bO40_3.1⟩) ?_
       refine wd_skip 18 hR rfl (by kernel_rfl) rfl (by kernel_rfl) (⟨bO40_0.1, bO40_1.1, bO40_2.1, bO40_3.1⟩) ?_
       refine wd_skip 19 hR rfl (by kernel_rfl) rfl (by kernel_rfl) (⟨bO40_0.1, bO40_1.1, bO40_2.1, bO40_3.1⟩) ?_
       refine wd_skip 20 hR rfl (by kernel_rfl) rfl (by kernel_rfl) (⟨bO40_0.1, bO40_1.1, bO40_2.1, bO40_3.1⟩) ?_
       refine wd_skip 21 hR rfl (by kernel_rfl) rfl (by kernel_rfl) (⟨bO40_0.1, bO40_1.1, bO40_2.1, bO40_3.1⟩) ?_
       refine wd_skip 22 hR rfl (by kernel_rfl) rfl (by kernel_rfl) (⟨bO40_0.1, bO40_1.1, bO40_2.1, bO40_3.1⟩) ?_
       refine wd_skip 23 hR rfl (by kernel_rfl) rfl (by kernel_rfl) (⟨bO40_0.1, bO40_1.1, bO40_2.1, bO40_3.1⟩) ?_
       refine wd_skip 24 hR rfl (by kernel_rfl) rfl (by kernel_rfl) (⟨bO40_0.1, bO40_1.1, bO40_2.1, bO40_3.1⟩) ?_
       refine wd_skip 25 hR rfl (by kernel_rfl) rfl (by kernel_rfl) (⟨bO40_0.1, bO40_1.1, bO40_2.1, bO40_3.1⟩) ?_
       refine wd_skip 26 hR rfl (by kernel_rfl) rfl (by kernel_rfl) (⟨bO40_0.1, bO40_1.1, bO40_2.1, bO40_3.1⟩) ?_
       refine wd_skip 27 hR rfl (by kernel_rfl) rfl (by kernel_rfl) (⟨bO40_0.1, bO40_1.1, bO40_2.1, bO40_3.1⟩) ?_
       refine wd_skip 28 hR rfl (by kernel_rfl) rfl (by kernel_rfl) (⟨bO40_0.1, bO40_1.1, bO40_2.1, bO40_3.1⟩) ?_
       refine wd_skip 29 hR rfl (by kernel_rfl) rfl (by kernel_rfl) (⟨bO40_0.1, bO40_1.1, bO40_2.1, bO40_3.1⟩) ?_
       refine wT 30 (.bool true) hR (fun w _ => by kernel_rfl) (⟨bO40_0.1, bO40_1.1, bO40_2.1, bO40_3.1⟩) ?_
       refine wT 31 (.bool true) hR (fun w _ => by kernel_rfl) (⟨bO40_0.1, bO40_1.1, bO40_2.1, bO40_3.1⟩) ?_
       refine wd_skip 32 hR rfl (by kernel_rfl) rfl (by kernel_rfl) (⟨bO40_0.1, bO40_1.1, bO40_2.1, bO40_3.1⟩) ?_
       refine wd_skip 33 hR rfl (by kernel_rfl) rfl (by kernel_rfl) (⟨bO40_0.1, bO40_1.1, bO40_2.1, bO40_3.1⟩) ?_
       refine wd_skip 34 hR rfl (by kernel_rfl) rfl (by kernel_rfl) (⟨bO40_0.1, bO40_1.1, bO40_2.1, bO40_3.1⟩) ?_
       refine wd_skip 35 hR rfl (by kernel_rfl) rfl (by kernel_rfl) (⟨bO40_0.1, bO40_1.1, bO40_2.1, bO40_3.1⟩) ?_
       refine wd_skip 36 hR rfl (by kernel_rfl) rfl (by kernel_rfl) (⟨bO40_0.1, bO40_1.1, bO40_2.1, bO40_3.1⟩) ?_
       refine wd_skip 37 hR rfl (by kernel_rfl) rfl (by kernel_rfl) (⟨bO40_0.1, bO40_1.1, bO40_2.1, bO40_3.1⟩) ?_
       refine wd_skip 38 hR rfl (by kernel_rfl) rfl (by kernel_rfl) (⟨bO40_0.1, bO40_1.1, bO40_2.1, bO40_3.1⟩) ?_
       refine wd_skip 39 hR rfl (by kernel_rfl) rfl (by kernel_rfl) (⟨bO40_0.1, bO40_1.1, bO40_2.1, bO40_3.1⟩) ?_
       refine wT 40 (.bool true) hR (fun w _ => by kernel_rfl) (⟨bO40_0.1, bO40_1.1, bO40_2.1, bO40_3.1⟩) ?_
       refine wd_end hL hR hK (by kernel_rfl) ?_
       refine qw_then ?_; refine cC7 1 3 5 31 32 33 78 (fun L => ?_)
       refine cw_t (by kernel_rfl) ?_
       refine cw_seq ?_; refine cw_plain ?_; refine pT (.bool false) ?_; refine pl_nil ?_; refine qw_then ?_
       refine cw_ret ?_
       refine qw_then_ret ?_
       refine qw_block_ret ?_
       refine qw_then_ret ?_
       refine qw_then_ret ?_
       refine qw_block_ret ?_
       refine qw_then_ret ?_
       refine qw_ret [.bool false] rfl ⟨(by kernel_rfl), trivial⟩ ?_
       exact ⟨congrArg (fun b => Ending.returned (Value.bool b)) (show Prod.validP id ver ar ps = false by unfold Prod.validP; rw [Hv, hst, hso]; simp).symm, hE⟩
      ·
       obtain ⟨b60, o61, rfl, rfl, hV62⟩ := va_of hA39 (Prod.okP_t.1 h1).2.2
       have lt63 := hV62.lt
       have hso : Prod.stepOk (Prod.rest ar (ps.take i)) (ps.take i) p = false := by simp [Prod.stepOk, h3]
       refine cw_draw [(some 38, [5], []), (some 39, [38], [0]), (some 40, [39], [1]), (some 41, [40], [2, 1]), (some 42, [5, 41], [3]), (some 43, [42, 41], [4, 3]), (some 44, [43, 41], [5, 3, 3]), (some 45, [44, 41], [6, 3]), (some 46, [41, 45], [3, 7]), (some 47, [46], [8, 6]), (some 48, [3, 47], [9]), (some 49, [5, 47], [9]), (some 50, [49, 47], [11, 9]), (some 51, [48, 50, 47], [10, 12, 9, 9]), (some 52, [51, 47], [13, 9]), (some 53, [47, 52], [9, 14]), (some 54, [53], [15, 13]), (some 55, [4, 54], [16]), (some 56, [55, 54], [17, 16]), (some 57, [56, 54], [18, 16, 16]), (some 58, [5, 57], [19]), (some 59, [1, 57], [19]), (some 60, [59, 57], [21, 19]), (some 61, [4, 57], [19]), (some 62, [61, 57], [23, 19]), (some 63, [60, 62, 57], [22, 24, 19]), (some 64, [63, 57], [25, 19]), (some 65, [58, 64, 57], [20, 26, 19, 19]), (some 66, [65, 57], [27, 19]), (some 67, [57, 66, 54], [19, 28, 16]), (some 68, [54, 67], [16, 29]), (some 69, [68], [30, 27]), (some 70, [1, 69], [31]), (some 71, [70, 69], [32, 31]), (some 72, [4, 69], [31]), (some 73, [71, 72, 69], [33, 34, 31]), (some 74, [5, 69], [31]), (some 75, [74, 69], [36, 31]), (some 76, [75, 69], [37, 31, 31]), (some 77, [73, 76, 69], [35, 38, 38, 31]), (some 78, [69, 77], [31, 39])] (fun w' => w'.cell? ⟨O40, 0, none⟩ = some (.int .i64 p.im) ∧ w'.cell? ⟨O40, 1, none⟩ = some (.int .i64 p.t) ∧ w'.cell? ⟨O40, 2, none⟩ = some (.bool p.cl) ∧ w'.cell? ⟨O40, 3, none⟩ = some (.slice (some ⟨b60, o61, none⟩) 24 c33) ∧ w'.cell? ⟨O19, 0, none⟩ = some (.slice (some ⟨BB, oB, none⟩) 24 kB)) (by kernel_rfl) (by kernel_rfl) (by kernel_rfl) (by kernel_rfl) ((calm_then (calm_then (calm_block (calm_then (calm_then (calm_block (calm_then calm_body)))))))) (⟨bO40_0.1, bO40_1.1, bO40_2.1, bO40_3.1, b3.1⟩) (fun ops Q X64 hb hL hR hK => ?_)
       replace hE := hE.trans hb; replace bO1_0 := BoxAt.ext hb bO1_0; replace bO1_1 := BoxAt.ext hb bO1_1; replace bO1_2 := BoxAt.ext hb bO1_2; replace bO1_3 := BoxAt.ext hb bO1_3; replace b3 := BoxAt.ext hb b3; replace vB := vB.ext hb; replace bO40_0 := BoxAt.ext hb bO40_0; replace bO40_1 := BoxAt.ext hb bO40_1; replace bO40_2 := BoxAt.ext hb bO40_2; replace bO40_3 := BoxAt.ext hb bO40_3; have hs65 := hb.size; clear hb
       refine wT 0 (.agg #[.int .i64 p.im, .int .i64 p.t, .bool p.cl, .slice (some ⟨b60, o61, none⟩) 24 c33]) hR (fun w hS => ex_load rfl (by kernel_rfl) (ld41 (hS.1) (hS.2.1) (hS.2.2.1) (hS.2.2.2.1))) (⟨bO40_0.1, bO40_1.1, bO40_2.1, bO40_3.1, b3.1⟩) ?_
       refine wS 1 hR (sn_call (f := 32) (args := #[.agg #[.int .i64 p.im, .int .i64 p.t, .bool p.cl, .slice (some ⟨b60, o61, none⟩) 24 c33]]) (by kernel_rfl) ((right_r (x := p) (r := true) _ (hV62.aa) hE h1).mono ?_))
       rintro e w66 ⟨rfl, hb⟩
       replace hE := hE.trans hb; replace bO1_0 := BoxAt.ext hb bO1_0; replace bO1_1 := BoxAt.ext hb bO1_1; replace bO1_2 := BoxAt.ext hb bO1_2; replace bO1_3 := BoxAt.ext hb bO1_3; replace b3 := BoxAt.ext hb b3; replace vB := vB.ext hb; replace bO40_0 := BoxAt.ext hb bO40_0; replace bO40_1 := BoxAt.ext hb bO40_1; replace bO40_2 := BoxAt.ext hb bO40_2; replace bO40_3 := BoxAt.ext hb bO40_3; have hs67 := hb.size; clear hb
       refine ⟨_, rfl, ⟨bO40_0.1, bO40_1.1, bO40_2.1, bO40_3.1, b3.1⟩, ?_⟩
       refine wT 2 (.bool false) hR (fun w _ => by kernel_rfl) (⟨bO40_0.1, bO40_1.1, bO40_2.1, bO40_3.1, b3.1⟩) ?_
       refine wT 3 (.bool false) hR (fun w _ => by kernel_rfl) (⟨bO40_0.1, bO40_1.1, bO40_2.1, bO40_3.1, b3.1⟩) ?_
       refine wT 4 (.pointer (some ⟨O40, 3, none⟩)) hR (fun w _ => by kernel_rfl) (⟨bO40_0.1, bO40_1.1, bO40_2.1, bO40_3.1, b3.1⟩) ?_
       refine wT 5 (.agg #[.slice (some ⟨b60, o61, none⟩) 24 c33]) hR (fun w hS => ex_load rfl (by kernel_rfl) (ld26 (hS.2.2.2.1))) (⟨bO40_0.1, bO40_1.1, bO40_2.1, bO40_3.1, b3.1⟩) ?_
       refine wS 6 hR (sn_call (f := 18) (args := #[.agg #[.slice (some ⟨b60, o61, none⟩) 24 c33]]) (by kernel_rfl) ((Count_v _ _ hV62 hE (hT.ext hE)).mono ?_))
       rintro e w68 ⟨rfl, hb⟩
       replace hE := hE.trans hb; replace bO1_0 := BoxAt.ext hb bO1_0; replace bO1_1 := BoxAt.ext hb bO1_1; replace bO1_2 := BoxAt.ext hb bO1_2; replace bO1_3 := BoxAt.ext hb bO1_3; replace b3 := BoxAt.ext hb b3; replace vB := vB.ext hb; replace bO40_0 := BoxAt.ext hb bO40_0; replace bO40_1 := BoxAt.ext hb bO40_1; replace bO40_2 := BoxAt.ext hb bO40_2; replace bO40_3 := BoxAt.ext hb bO40_3; have hs69 := hb.size; clear hb
       refine ⟨_, rfl, ⟨bO40_0.1, bO40_1.1, bO40_2.1, bO40_3.1, b3.1⟩, ?_⟩
       refine wT 7 (.bool false) hR (fun w _ => ev_neq (show _ = Result.ok (Next.value (Value.bool (((((Globe.cellsTo p.rw 24).length : Nat) : Int) : Int) == (0 : Int)))) _ from by kernel_rfl) (Prod.noC_ne h2)) (⟨bO40_0.1, bO40_1.1, bO40_2.1, bO40_3.1, b3.1⟩) ?_
       refine wT 8 (.bool false) hR (fun w _ => by kernel_rfl) (⟨bO40_0.1, bO40_1.1, bO40_2.1, bO40_3.1, b3.1⟩) ?_
       refine wT 9 (.bool false) hR (fun w _ => by kernel_rfl) (⟨bO40_0.1, bO40_1.1, bO40_2.1, bO40_3.1, b3.1⟩) ?_
       refine wT 10 (.agg #[.slice (some ⟨BB, oB, none⟩) 24 kB]) hR (fun w hS => ex_load rfl (by kernel_rfl) (ld26 (hS.2.2.2.2))) (⟨bO40_0.1, bO40_1.1, bO40_2.1, bO40_3.1, b3.1⟩) ?_
       refine wT 11 (.pointer (some ⟨O40, 3, none⟩)) hR (fun w _ => by kernel_rfl) (⟨bO40_0.1, bO40_1.1, bO40_2.1, bO40_3.1, b3.1⟩) ?_
       refine wT 12 (.agg #[.slice (some ⟨b60, o61, none⟩) 24 c33]) hR (fun w hS => ex_load rfl (by kernel_rfl) (ld26 (hS.2.2.2.1))) (⟨bO40_0.1, bO40_1.1, bO40_2.1, bO40_3.1, b3.1⟩) ?_
       refine wS 13 hR (sn_call (f := 23) (args := #[.agg #[.slice (some ⟨BB, oB, none⟩) 24 kB], .agg #[.slice (some ⟨b60, o61, none⟩) 24 c33]]) (by kernel_rfl) ((Contains_q (r := false) _ _ _ (vB.aa) (Ext.refl _) (hV62.aa) hE h3).mono ?_))
       rintro e w70 ⟨rfl, hb⟩
       replace hE := hE.trans hb; replace bO1_0 := BoxAt.ext hb bO1_0; replace bO1_1 := BoxAt.ext hb bO1_1; replace bO1_2 := BoxAt.ext hb bO1_2; replace bO1_3 := BoxAt.ext hb bO1_3; replace b3 := BoxAt.ext hb b3; replace vB := vB.ext hb; replace bO40_0 := BoxAt.ext hb bO40_0; replace bO40_1 := BoxAt.ext hb bO40_1; replace bO40_2 := BoxAt.ext hb bO40_2; replace bO40_3 := BoxAt.ext hb bO40_3; have hs71 := hb.size; clear hb
       refine ⟨_, rfl, ⟨bO40_0.1, bO40_1.1, bO40_2.1, bO40_3.1, b3.1⟩, ?_⟩
       refine wT 14 (.bool true) hR (fun w _ => by kernel_rfl) (⟨bO40_0.1, bO40_1.1, bO40_2.1, bO40_3.1, b3.1⟩) ?_
       refine wT 15 (.bool true) hR (fun w _ => by kernel_rfl) (⟨bO40_0.1, bO40_1.1, bO40_2.1, bO40_3.1, b3.1⟩) ?_
       refine wT 16 (.bool true) hR (fun w _ => by kernel_rfl) (⟨bO40_0.1, bO40_1.1, bO40_2.1, bO40_3.1, b3.1⟩) ?_
       refine wd_skip 17 hR rfl (by kernel_rfl) rfl (by kernel_rfl) (⟨bO40_0.1, bO40_1.1, bO40_2.1, bO40_3.1, b3.1⟩) ?_
       refine wd_skip 18 hR rfl (by kernel_rfl) rfl (by kernel_rfl) (⟨bO40_0.1, bO40_1.1, bO40_2.1, bO40_3.1, b3.1⟩) ?_
       refine wd_skip 19 hR rfl (by kernel_rfl) rfl (by kernel_rfl) (⟨bO40_0.1, bO40_1.1, bO40_2.1, bO40_3.1, b3.1⟩) ?_
       refine wd_skip 20 hR rfl (by kernel_rfl) rfl (by kernel_rfl) (⟨bO40_0.1, bO40_1.1, bO40_2.1, bO40_3.1, b3.1⟩) ?_
       refine wd_skip 21 hR rfl (by kernel_rfl) rfl (by kernel_rfl) (⟨bO40_0.1, bO40_1.1, bO40_2.1, bO40_3.1, b3.1⟩) ?_
       refine wd_skip 22 hR rfl (by kernel_rfl) rfl (by kernel_rfl) (⟨bO40_0.1, bO40_1.1, bO40_2.1, bO40_3.1, b3.1⟩) ?_
       refine wd_skip 23 hR rfl (by kernel_rfl) rfl (by kernel_rfl) (⟨bO40_0.1, bO40_1.1, bO40_2.1, bO40_3.1, b3.1⟩) ?_
       refine wd_skip 24 hR rfl (by kernel_rfl) rfl (by kernel_rfl) (⟨bO40_0.1, bO40_1.1, bO40_2.1, bO40_3.1, b3.1⟩) ?_
       refine wd_skip 25 hR rfl (by kernel_rfl) rfl (by kernel_rfl) (⟨bO40_0.1, bO40_1.1, bO40_2.1, bO40_3.1, b3.1⟩) ?_
       refine wd_skip 26 hR rfl (by kernel_rfl) rfl (by kernel_rfl) (⟨bO40_0.1, bO40_1.1, bO40_2.1, bO40_3.1, b3.1⟩) ?_
       refine wd_skip 27 hR rfl (by kernel_rfl) rfl (by kernel_rfl) (⟨bO40_0.1, bO40_1.1, bO40_2.1, bO40_3.1, b3.1⟩) ?_
       refine wd_skip 28 hR rfl (by kernel_rfl) rfl (by kernel_rfl) (⟨bO40_0.1, bO40_1.1, bO40_2.1, bO40_3.1, b3.1⟩) ?_
       refine wd_skip 29 hR rfl (by kernel_rfl) rfl (by kernel_rfl) (⟨bO40_0.1, bO40_1.1, bO40_2.1, bO40_3.1, b3.1⟩) ?_
       refine wT 30 (.bool true) hR (fun w _ => by kernel_rfl) (⟨bO40_0.1, bO40_1.1, bO40_2.1, bO40_3.1, b3.1⟩) ?_
       refine wT 31 (.bool true) hR (fun w _ => by kernel_rfl) (⟨bO40_0.1, bO40_1.1, bO40_2.1, bO40_3.1, b3.1⟩) ?_
       refine wd_skip 32 hR rfl (by kernel_rfl) rfl (by kernel_rfl) (⟨bO40_0.1, bO40_1.1, bO40_2.1, bO40_3.1, b3.1⟩) ?_
       refine wd_skip 33 hR rfl (by kernel_rfl) rfl (by kernel_rfl) (⟨bO40_0.1, bO40_1.1, bO40_2.1, bO40_3.1, b3.1⟩) ?_
       refine wd_skip 34 hR rfl (by kernel_rfl) rfl (by kernel_rfl) (⟨bO40_0.1, bO40_1.1, bO40_2.1, bO40_3.1, b3.1⟩) ?_
       refine wd_skip 35 hR rfl (by kernel_rfl) rfl (by kernel_rfl) (⟨bO40_0.1, bO40_1.1, bO40_2.1, bO40_3.1, b3.1⟩) ?_
       refine wd_skip 36 hR rfl (by kernel_rfl) rfl (by kernel_rfl) (⟨bO40_0.1, bO40_1.1, bO40_2.1, bO40_3.1, b3.1⟩) ?_
       refine wd_skip 37 hR rfl (by kernel_rfl) rfl (by kernel_rfl) (⟨bO40_0.1, bO40_1.1, bO40_2.1, bO40_3.1, b3.1⟩) ?_
       refine wd_skip 38 hR rfl (by kernel_rfl) rfl (by kernel_rfl) (⟨bO40_0.1, bO40_1.1, bO40_2.1, bO40_3.1, b3.1⟩) ?_
       refine wd_skip 39 hR rfl (by kernel_rfl) rfl (by kernel_rfl) (⟨bO40_0.1, bO40_1.1, bO40_2.1, bO40_3.1, b3.1⟩) ?_
       refine wT 40 (.bool true) hR (fun w _ => by kernel_rfl) (⟨bO40_0.1, bO40_1.1, bO40_2.1, bO40_3.1, b3.1⟩) ?_
       refine wd_end hL hR hK (by kernel_rfl) ?_
       refine qw_then ?_; refine cC7 1 3 5 31 32 33 78 (fun L => ?_)
       refine cw_t (by kernel_rfl) ?_
       refine cw_seq ?_; refine cw_plain ?_; refine pT (.bool false) ?_; refine pl_nil ?_; refine qw_then ?_
       refine cw_ret ?_
       refine qw_then_ret ?_
       refine qw_block_ret ?_
       refine qw_then_ret ?_
       refine qw_then_ret ?_
       refine qw_block_ret ?_
       refine qw_then_ret ?_
       refine qw_ret [.bool false] rfl ⟨(by kernel_rfl), trivial⟩ ?_
       exact ⟨congrArg (fun b => Ending.returned (Value.bool b)) (show Prod.validP id ver ar ps = false by unfold Prod.validP; rw [Hv, hst, hso]; simp).symm, hE⟩
      ·
       by_cases hi0 : i = 0
       ·
        rcases Bool.eq_false_or_eq_true (Prod.hasIm (ps.take i) p.im) with h5 | h5
        ·
         obtain ⟨b72, o73, rfl, rfl, hV74⟩ := va_of hA39 (Prod.okP_t.1 h1).2.2
         have lt75 := hV74.lt
         have hso : Prod.stepOk (Prod.rest ar (ps.take i)) (ps.take i) p = false := by rw [Prod.step_first h1 h2 h3 (by rw [hi0]; rfl), show (!(ps.take i).any fun q => decide (q.im = p.im)) = !(Prod.hasIm (ps.take i) p.im) from rfl, h5]; rfl
         refine cw_draw [(some 38, [5], []), (some 39, [38], [0]), (some 40, [39], [1]), (some 41, [40], [2, 1]), (some 42, [5, 41], [3]), (some 43, [42, 41], [4, 3]), (some 44, [43, 41], [5, 3, 3]), (some 45, [44, 41], [6, 3]), (some 46, [41, 45], [3, 7]), (some 47, [46], [8, 6]), (some 48, [3, 47], [9]), (some 49, [5, 47], [9]), (some 50, [49, 47], [11, 9]), (some 51, [48, 50, 47], [10, 12, 9, 9]), (some 52, [51, 47], [13, 9]), (some 53, [47, 52], [9, 14]), (some 54, [53], [15, 13]), (some 55, [4, 54], [16]), (some 56, [55, 54], [17, 16]), (some 57, [56, 54], [18, 16, 16]), (some 58, [5, 57], [19]), (some 59, [1, 57], [19]), (some 60, [59, 57], [21, 19]), (some 61, [4, 57], [19]), (some 62, [61, 57], [23, 19]), (some 63, [60, 62, 57], [22, 24, 19]), (some 64, [63, 57], [25, 19]), (some 65, [58, 64, 57], [20, 26, 19, 19]), (some 66, [65, 57], [27, 19]), (some 67, [57, 66, 54], [19, 28, 16]), (some 68, [54, 67], [16, 29]), (some 69, [68], [30, 27]), (some 70, [1, 69], [31]), (some 71, [70, 69], [32, 31]), (some 72, [4, 69], [31]), (some 73, [71, 72, 69], [33, 34, 31]), (some 74, [5, 69], [31]), (some 75, [74, 69], [36, 31]), (some 76, [75, 69], [37, 31, 31]), (some 77, [73, 76, 69], [35, 38, 38, 31]), (some 78, [69, 77], [31, 39])] (fun w' => w'.cell? ⟨O40, 0, none⟩ = some (.int .i64 p.im) ∧ w'.cell? ⟨O40, 1, none⟩ = some (.int .i64 p.t) ∧ w'.cell? ⟨O40, 2, none⟩ = some (.bool p.cl) ∧ w'.cell? ⟨O40, 3, none⟩ = some (.slice (some ⟨b72, o73, none⟩) 24 c33) ∧ w'.cell? ⟨O19, 0, none⟩ = some (.slice (some ⟨BB, oB, none⟩) 24 kB) ∧ w'.cell? ⟨O1, 3, none⟩ = some (.slice (some ⟨b29, o30, none⟩) n c)) (by kernel_rfl) (by kernel_rfl) (by kernel_rfl) (by kernel_rfl) ((calm_then (calm_then (calm_block (calm_then (calm_then (calm_block (calm_then calm_body)))))))) (⟨bO40_0.1, bO40_1.1, bO40_2.1, bO40_3.1, b3.1, bO1_3.1⟩) (fun ops Q X76 hb hL hR hK => ?_)
         replace hE := hE.trans hb; replace bO1_0 := BoxAt.ext hb bO1_0; replace bO1_1 := BoxAt.ext hb bO1_1; replace bO1_2 := BoxAt.ext hb bO1_2; replace bO1_3 := BoxAt.ext hb bO1_3; replace b3 := BoxAt.ext hb b3; replace vB := vB.ext hb; replace bO40_0 := BoxAt.ext hb bO40_0; replace bO40_1 := BoxAt.ext hb bO40_1; replace bO40_2 := BoxAt.ext hb bO40_2; replace bO40_3 := BoxAt.ext hb bO40_3; have hs77 := hb.size; clear hb
         refine wT 0 (.agg #[.int .i64 p.im, .int .i64 p.t, .bool p.cl, .slice (some ⟨b72, o73, none⟩) 24 c33]) hR (fun w hS => ex_load rfl (by kernel_rfl) (ld41 (hS.1) (hS.2.1) (hS.2.2.1) (hS.2.2.2.1))) (⟨bO40_0.1, bO40_1.1, bO40_2.1, bO40_3.1, b3.1, bO1_3.1⟩) ?_
         refine wS 1 hR (sn_call (f := 32) (args := #[.agg #[.int .i64 p.im, .int .i64 p.t, .bool p.cl, .slice (some ⟨b72, o73, none⟩) 24 c33]]) (by kernel_rfl) ((right_r (x := p) (r := true) _ (hV74.aa) hE h1).mono ?_))
         rintro e w78 ⟨rfl, hb⟩
         replace hE := hE.trans hb; replace bO1_0 := BoxAt.ext hb bO1_0; replace bO1_1 := BoxAt.ext hb bO1_1; replace bO1_2 := BoxAt.ext hb bO1_2; replace bO1_3 := BoxAt.ext hb bO1_3; replace b3 := BoxAt.ext hb b3; replace vB := vB.ext hb; replace bO40_0 := BoxAt.ext hb bO40_0; replace bO40_1 := BoxAt.ext hb bO40_1; replace bO40_2 := BoxAt.ext hb bO40_2; replace bO40_3 := BoxAt.ext hb bO40_3; have hs79 := hb.size; clear hb
         refine ⟨_, rfl, ⟨bO40_0.1, bO40_1.1, bO40_2.1, bO40_3.1, b3.1, bO1_3.1⟩, ?_⟩
         refine wT 2 (.bool false) hR (fun w _ => by kernel_rfl) (⟨bO40_0.1, bO40_1.1, bO40_2.1, bO40_3.1, b3.1, bO1_3.1⟩) ?_
         refine wT 3 (.bool false) hR (fun w _ => by kernel_rfl) (⟨bO40_0.1, bO40_1.1, bO40_2.1, bO40_3.1, b3.1, bO1_3.1⟩) ?_
         refine wT 4 (.pointer (some ⟨O40, 3, none⟩)) hR (fun w _ => by kernel_rfl) (⟨bO40_0.1, bO40_1.1, bO40_2.1, bO40_3.1, b3.1, bO1_3.1⟩) ?_
         refine wT 5 (.agg #[.slice (some ⟨b72, o73, none⟩) 24 c33]) hR (fun w hS => ex_load rfl (by kernel_rfl) (ld26 (hS.2.2.2.1))) (⟨bO40_0.1, bO40_1.1, bO40_2.1, bO40_3.1, b3.1, bO1_3.1⟩) ?_
         refine wS 6 hR (sn_call (f := 18) (args := #[.agg #[.slice (some ⟨b72, o73, none⟩) 24 c33]]) (by kernel_rfl) ((Count_v _ _ hV74 hE (hT.ext hE)).mono ?_))
         rintro e w80 ⟨rfl, hb⟩
         replace hE := hE.trans hb; replace bO1_0 := BoxAt.ext hb bO1_0; replace bO1_1 := BoxAt.ext hb bO1_1; replace bO1_2 := BoxAt.ext hb bO1_2; replace bO1_3 := BoxAt.ext hb bO1_3; replace b3 := BoxAt.ext hb b3; replace vB := vB.ext hb; replace bO40_0 := BoxAt.ext hb bO40_0; replace bO40_1 := BoxAt.ext hb bO40_1; replace bO40_2 := BoxAt.ext hb bO40_2; replace bO40_3 := BoxAt.ext hb bO40_3; have hs81 := hb.size; clear hb
         refine ⟨_, rfl, ⟨bO40_0.1, bO40_1.1, bO40_2.1, bO40_3.1, b3.1, bO1_3.1⟩, ?_⟩
         refine wT 7 (.bool false) hR (fun w _ => ev_neq (show _ = Result.ok (Next.value (Value.bool (((((Globe.cellsTo p.rw 24).length : Nat) : Int) : Int) == (0 : Int)))) _ from by kernel_rfl) (Prod.noC_ne h2)) (⟨bO40_0.1, bO40_1.1, bO40_2.1, bO40_3.1, b3.1, bO1_3.1⟩) ?_
         refine wT 8 (.bool false) hR (fun w _ => by kernel_rfl) (⟨bO40_0.1, bO40_1.1, bO40_2.1, bO40_3.1, b3.1, bO1_3.1⟩) ?_
         refine wT 9 (.bool false) hR (fun w _ => by kernel_rfl) (⟨bO40_0.1, bO40_1.1, bO40_2.1, bO40_3.1, b3.1, bO1_3.1⟩) ?_
         refine wT 10 (.agg #[.slice (some ⟨BB, oB, none⟩) 24 kB]) hR (fun w hS => ex_load rfl (by kernel_rfl) (ld26 (hS.2.2.2.2.1))) (⟨bO40_0.1, bO40_1.1, bO40_2.1, bO40_3.1, b3.1, bO1_3.1⟩) ?_
         refine wT 11 (.pointer (some ⟨O40, 3, none⟩)) hR (fun w _ => by kernel_rfl) (⟨bO40_0.1, bO40_1.1, bO40_2.1, bO40_3.1, b3.1, bO1_3.1⟩) ?_
         refine wT 12 (.agg #[.slice (some ⟨b72, o73, none⟩) 24 c33]) hR (fun w hS => ex_load rfl (by kernel_rfl) (ld26 (hS.2.2.2.1))) (⟨bO40_0.1, bO40_1.1, bO40_2.1, bO40_3.1, b3.1, bO1_3.1⟩) ?_
         refine wS 13 hR (sn_call (f := 23) (args := #[.agg #[.slice (some ⟨BB, oB, none⟩) 24 kB], .agg #[.slice (some ⟨b72, o73, none⟩) 24 c33]]) (by kernel_rfl) ((Contains_q (r := true) _ _ _ (vB.aa) (Ext.refl _) (hV74.aa) hE h3).mono ?_))
         rintro e w82 ⟨rfl, hb⟩
         replace hE := hE.trans hb; replace bO1_0 := BoxAt.ext hb bO1_0; replace bO1_1 := BoxAt.ext hb bO1_1; replace bO1_2 := BoxAt.ext hb bO1_2; replace bO1_3 := BoxAt.ext hb bO1_3; replace b3 := BoxAt.ext hb b3; replace vB := vB.ext hb; replace bO40_0 := BoxAt.ext hb bO40_0; replace bO40_1 := BoxAt.ext hb bO40_1; replace bO40_2 := BoxAt.ext hb bO40_2; replace bO40_3 := BoxAt.ext hb bO40_3; have hs83 := hb.size; clear hb
         refine ⟨_, rfl, ⟨bO40_0.1, bO40_1.1, bO40_2.1, bO40_3.1, b3.1, bO1_3.1⟩, ?_⟩
         refine wT 14 (.bool false) hR (fun w _ => by kernel_rfl) (⟨bO40_0.1, bO40_1.1, bO40_2.1, bO40_3.1, b3.1, bO1_3.1⟩) ?_
         refine wT 15 (.bool false) hR (fun w _ => by kernel_rfl) (⟨bO40_0.1, bO40_1.1, bO40_2.1, bO40_3.1, b3.1, bO1_3.1⟩) ?_
         refine wT 16 (.bool false) hR (fun w _ => by kernel_rfl) (⟨bO40_0.1, bO40_1.1, bO40_2.1, bO40_3.1, b3.1, bO1_3.1⟩) ?_
         refine wT 17 (.int .i64 (((i : Nat) : Int) : Int)) hR (fun w _ => by kernel_rfl) (⟨bO40_0.1, bO40_1.1, bO40_2.1, bO40_3.1, b3.1, bO1_3.1⟩) ?_
         refine wT 18 (.bool false) hR (fun w _ => ev_ndec (show _ = Result.ok (Next.value (Value.bool (decide ((((i : Nat) : Int) : Int) > (0 : Int))))) _ from by kernel_rfl) (by omega)) (⟨bO40_0.1, bO40_1.1, bO40_2.1, bO40_3.1, b3.1, bO1_3.1⟩) ?_
         refine wT 19 (.bool false) hR (fun w _ => by kernel_rfl) (⟨bO40_0.1, bO40_1.1, bO40_2.1, bO40_3.1, b3.1, bO1_3.1⟩) ?_
         refine wd_skip 20 hR rfl (by kernel_rfl) rfl (by kernel_rfl) (⟨bO40_0.1, bO40_1.1, bO40_2.1, bO40_3.1, b3.1, bO1_3.1⟩) ?_
         refine wd_skip 21 hR rfl (by kernel_rfl) rfl (by kernel_rfl) (⟨bO40_0.1, bO40_1.1, bO40_2.1, bO40_3.1, b3.1, bO1_3.1⟩) ?_
         refine wd_skip 22 hR rfl (by kernel_rfl) rfl (by kernel_rfl) (⟨bO40_0.1, bO40_1.1, bO40_2.1, bO40_3.1, b3.1, bO1_3.1⟩) ?_
         refine wd_skip 23 hR rfl (by kernel_rfl) rfl (by kernel_rfl) (⟨bO40_0.1, bO40_1.1, bO40_2.1, bO40_3.1, b3.1, bO1_3.1⟩) ?_
         refine wd_skip 24 hR rfl (by kernel_rfl) rfl (by kernel_rfl) (⟨bO40_0.1, bO40_1.1, bO40_2.1, bO40_3.1, b3.1, bO1_3.1⟩) ?_
         refine wd_skip 25 hR rfl (by kernel_rfl) rfl (by kernel_rfl) (⟨bO40_0.1, bO40_1.1, bO40_2.1, bO40_3.1, b3.1, bO1_3.1⟩) ?_
         refine wd_skip 26 hR rfl (by kernel_rfl) rfl (by kernel_rfl) (⟨bO40_0.1, bO40_1.1, bO40_2.1, bO40_3.1, b3.1, bO1_3.1⟩) ?_
         refine wd_skip 27 hR rfl (by kernel_rfl) rfl (by kernel_rfl) (⟨bO40_0.1, bO40_1.1, bO40_2.1, bO40_3.1, b3.1, bO1_3.1⟩) ?_
         refine wd_skip 28 hR rfl (by kernel_rfl) rfl (by kernel_rfl) (⟨bO40_0.1, bO40_1.1, bO40_2.1, bO40_3.1, b3.1, bO1_3.1⟩) ?_
         refine wT 29 (.bool false) hR (fun w _ => by kernel_rfl) (⟨bO40_0.1, bO40_1.1, bO40_2.1, bO40_3.1, b3.1, bO1_3.1⟩) ?_
         refine wT 30 (.bool false) hR (fun w _ => by kernel_rfl) (⟨bO40_0.1, bO40_1.1, bO40_2.1, bO40_3.1, b3.1, bO1_3.1⟩) ?_
         refine wT 31 (.bool false) hR (fun w _ => by kernel_rfl) (⟨bO40_0.1, bO40_1.1, bO40_2.1, bO40_3.1, b3.1, bO1_3.1⟩) ?_
         refine wT 32 (.pointer (some ⟨O1, 3, none⟩)) hR (fun w _ => by kernel_rfl) (⟨bO40_0.1, bO40_1.1, bO40_2.1, bO40_3.1, b3.1, bO1_3.1⟩) ?_
         refine wT 33 (.slice (some ⟨b29, o30, none⟩) n c) hR (fun w hS => ex_load rfl (by kernel_rfl) (ld28 (hS.2.2.2.2.2))) (⟨bO40_0.1, bO40_1.1, bO40_2.1, bO40_3.1, b3.1, bO1_3.1⟩) ?_
         refine wT 34 (.int .i64 (((i : Nat) : Int) : Int)) hR (fun w _ => by kernel_rfl) (⟨bO40_0.1, bO40_1.1, bO40_2.1, bO40_3.1, b3.1, bO1_3.1⟩) ?_
         refine wT 35 (.slice (some ⟨b29, o30, none⟩) i c) hR (fun w _ => ex_slice (p := .slice (some ⟨b29, o30, none⟩) n c) rfl (by kernel_rfl) (by kernel_rfl) (by kernel_rfl) (by kernel_rfl) (sl28_010 (m := i) (by omega) (by omega))) (⟨bO40_0.1, bO40_1.1, bO40_2.1, bO40_3.1, b3.1, bO1_3.1⟩) ?_
         refine wT 36 (.pointer (some ⟨O40, 0, none⟩)) hR (fun w _ => by kernel_rfl) (⟨bO40_0.1, bO40_1.1, bO40_2.1, bO40_3.1, b3.1, bO1_3.1⟩) ?_
         refine wT 37 (.int .i64 p.im) hR (fun w hS => ex_load rfl (by kernel_rfl) (ld3 (hS.1))) (⟨bO40_0.1, bO40_1.1, bO40_2.1, bO40_3.1, b3.1, bO1_3.1⟩) ?_
         refine wS 38 hR (sn_call (f := 34) (args := #[.int .i64 p.im]) (by kernel_rfl) ((twin_c p.im _).mono ?_))
         rintro e w87 ⟨B84, rfl, hn85, hc86, hb⟩
         replace hE := hE.trans hb; replace bO1_0 := BoxAt.ext hb bO1_0; replace bO1_1 := BoxAt.ext hb bO1_1; replace bO1_2 := BoxAt.ext hb bO1_2; replace bO1_3 := BoxAt.ext hb bO1_3; replace b3 := BoxAt.ext hb b3; replace vB := vB.ext hb; replace bO40_0 := BoxAt.ext hb bO40_0; replace bO40_1 := BoxAt.ext hb bO40_1; replace bO40_2 := BoxAt.ext hb bO40_2; replace bO40_3 := BoxAt.ext hb bO40_3; have hs88 := hb.size; clear hb
         have lt89 := World.block_lt_of_cell? _ _ hc86
         refine ⟨_, rfl, ⟨bO40_0.1, bO40_1.1, bO40_2.1, bO40_3.1, b3.1, bO1_3.1⟩, ?_⟩
         refine wS 39 hR (sn_call (f := 33) (args := #[.slice (some ⟨b29, o30, none⟩) i c, .func (.func 58) #[] #[.pointer (some ⟨B84, 0, none⟩)]]) (by kernel_rfl) ((ContainsTwin_r (r := true) _ _ ((hP).take (by omega)) hE (hc86) (Ext.refl _) h5).mono ?_))
         rintro e w90 ⟨rfl, hb⟩
         replace hE := hE.trans hb; replace bO1_0 := BoxAt.ext hb bO1_0; replace bO1_1 := BoxAt.ext hb bO1_1; replace bO1_2 := BoxAt.ext hb bO1_2; replace bO1_3 := BoxAt.ext hb bO1_3; replace b3 := BoxAt.ext hb b3; replace vB := vB.ext hb; replace bO40_0 := BoxAt.ext hb bO40_0; replace bO40_1 := BoxAt.ext hb bO40_1; replace bO40_2 := BoxAt.ext hb bO40_2; replace bO40_3 := BoxAt.ext hb bO40_3; replace hc86 := hb.cell hc86; have hs91 := hb.size; clear hb
         refine ⟨_, rfl, ⟨bO40_0.1, bO40_1.1, bO40_2.1, bO40_3.1, b3.1, bO1_3.1⟩, ?_⟩
         refine wT 40 (.bool true) hR (fun w _ => by kernel_rfl) (⟨bO40_0.1, bO40_1.1, bO40_2.1, bO40_3.1, b3.1, bO1_3.1⟩) ?_
         refine wd_end hL hR hK (by kernel_rfl) ?_
         refine qw_then ?_; refine cC7 1 3 5 31 32 33 78 (fun L => ?_)
         refine cw_t (by kernel_rfl) ?_
         refine cw_seq ?_; refine cw_plain ?_; refine pT (.bool false) ?_; refine pl_nil ?_; refine qw_then ?_
         refine cw_ret ?_
         refine qw_then_ret ?_
         refine qw_block_ret ?_
         refine qw_then_ret ?_
         refine qw_then_ret ?_
         refine qw_block_ret ?_
         refine qw_then_ret ?_
         refine qw_ret [.bool false] rfl ⟨(by kernel_rfl), trivial⟩ ?_
         exact ⟨congrArg (fun b => Ending.returned (Value.bool b)) (show Prod.validP id ver ar ps = false by unfold Prod.validP; rw [Hv, hst, hso]; simp).symm, hE⟩
        ·
         obtain ⟨b92, o93, rfl, rfl, hV94⟩ := va_of hA39 (Prod.okP_t.1 h1).2.2
         have lt95 := hV94.lt
         have hso : Prod.stepOk (Prod.rest ar (ps.take i)) (ps.take i) p = true := by rw [Prod.step_first h1 h2 h3 (by rw [hi0]; rfl), show (!(ps.take i).any fun q => decide (q.im = p.im)) = !(Prod.hasIm (ps.take i) p.im) from rfl, h5]; rfl
         refine cw_draw [(some 38, [5], []), (some 39, [38], [0]), (some 40, [39], [1]), (some 41, [40], [2, 1]), (some 42, [5, 41], [3]), (some 43, [42, 41], [4, 3]), (some 44, [43, 41], [5, 3, 3]), (some 45, [44, 41], [6, 3]), (some 46, [41, 45], [3, 7]), (some 47, [46], [8, 6]), (some 48, [3, 47], [9]), (some 49, [5, 47], [9]), (some 50, [49, 47], [11, 9]), (some 51, [48, 50, 47], [10, 12, 9, 9]), (some 52, [51, 47], [13, 9]), (some 53, [47, 52], [9, 14]), (some 54, [53], [15, 13]), (some 55, [4, 54], [16]), (some 56, [55, 54], [17, 16]), (some 57, [56, 54], [18, 16, 16]), (some 58, [5, 57], [19]), (some 59, [1, 57], [19]), (some 60, [59, 57], [21, 19]), (some 61, [4, 57], [19]), (some 62, [61, 57], [23, 19]), (some 63, [60, 62, 57], [22, 24, 19]), (some 64, [63, 57], [25, 19]), (some 65, [58, 64, 57], [20, 26, 19, 19]), (some 66, [65, 57], [27, 19]), (some 67, [57, 66, 54], [19, 28, 16]), (some 68, [54, 67], [16, 29]), (some 69, [68], [30, 27]), (some 70, [1, 69], [31]), (some 71, [70, 69], [32, 31]), (some 72, [4, 69], [31]), (some 73, [71, 72, 69], [33, 34, 31]), (some 74, [5, 69], [31]), (some 75, [74, 69], [36, 31]), (some 76, [75, 69], [37, 31, 31]), (some 77, [73, 76, 69], [35, 38, 38, 31]), (some 78, [69, 77], [31, 39])] (fun w' => w'.cell? ⟨O40, 0, none⟩ = some (.int .i64 p.im) ∧ w'.cell? ⟨O40, 1, none⟩ = some (.int .i64 p.t) ∧ w'.cell? ⟨O40, 2, none⟩ = some (.bool p.cl) ∧ w'.cell? ⟨O40, 3, none⟩ = some (.slice (some ⟨b92, o93, none⟩) 24 c33) ∧ w'.cell? ⟨O19, 0, none⟩ = some (.slice (some ⟨BB, oB, none⟩) 24 kB) ∧ w'.cell? ⟨O1, 3, none⟩ = some (.slice (some ⟨b29, o30, none⟩) n c)) (by kernel_rfl) (by kernel_rfl) (by kernel_rfl) (by kernel_rfl) ((calm_then (calm_then (calm_block (calm_then (calm_then (calm_block (calm_then calm_body)))))))) (⟨bO40_0.1, bO40_1.1, bO40_2.1, bO40_3.1, b3.1, bO1_3.1⟩) (fun ops Q X96 hb hL hR hK => ?_)
         replace hE := hE.trans hb; replace bO1_0 := BoxAt.ext hb bO1_0; replace bO1_1 := BoxAt.ext hb bO1_1; replace bO1_2 := BoxAt.ext hb bO1_2; replace bO1_3 := BoxAt.ext hb bO1_3; replace b3 := BoxAt.ext hb b3; replace vB := vB.ext hb; replace bO40_0 := BoxAt.ext hb bO40_0; replace bO40_1 := BoxAt.ext hb bO40_1; replace bO40_2 := BoxAt.ext hb bO40_2; replace bO40_3 := BoxAt.ext hb bO40_3; have hs97 := hb.size; clear hb
         refine wT 0 (.agg #[.int .i64 p.im, .int .i64 p.t, .bool p.cl, .slice (some ⟨b92, o93, none⟩) 24 c33]) hR (fun w hS => ex_load rfl (by kernel_rfl) (ld41 (hS.1) (hS.2.1) (hS.2.2.1) (hS.2.2.2.1))) (⟨bO40_0.1, bO40_1.1, bO40_2.1, bO40_3.1, b3.1, bO1_3.1⟩) ?_
         refine wS 1 hR (sn_call (f := 32) (args := #[.agg #[.int .i64 p.im, .int .i64 p.t, .bool p.cl, .slice (some ⟨b92, o93, none⟩) 24 c33]]) (by kernel_rfl) ((right_r (x := p) (r := true) _ (hV94.aa) hE h1).mono ?_))
         rintro e w98 ⟨rfl, hb⟩
         replace hE := hE.trans hb; replace bO1_0 := BoxAt.ext hb bO1_0; replace bO1_1 := BoxAt.ext hb bO1_1; replace bO1_2 := BoxAt.ext hb bO1_2; replace bO1_3 := BoxAt.ext hb bO1_3; replace b3 := BoxAt.ext hb b3; replace vB := vB.ext hb; replace bO40_0 := BoxAt.ext hb bO40_0; replace bO40_1 := BoxAt.ext hb bO40_1; replace bO40_2 := BoxAt.ext hb bO40_2; replace bO40_3 := BoxAt.ext hb bO40_3; have hs99 := hb.size; clear hb
         refine ⟨_, rfl, ⟨bO40_0.1, bO40_1.1, bO40_2.1, bO40_3.1, b3.1, bO1_3.1⟩, ?_⟩
         refine wT 2 (.bool false) hR (fun w _ => by kernel_rfl) (⟨bO40_0.1, bO40_1.1, bO40_2.1, bO40_3.1, b3.1, bO1_3.1⟩) ?_
         refine wT 3 (.bool false) hR (fun w _ => by kernel_rfl) (⟨bO40_0.1, bO40_1.1, bO40_2.1, bO40_3.1, b3.1, bO1_3.1⟩) ?_
         refine wT 4 (.pointer (some ⟨O40, 3, none⟩)) hR (fun w _ => by kernel_rfl) (⟨bO40_0.1, bO40_1.1, bO40_2.1, bO40_3.1, b3.1, bO1_3.1⟩) ?_
         refine wT 5 (.agg #[.slice (some ⟨b92, o93, none⟩) 24 c33]) hR (fun w hS => ex_load rfl (by kernel_rfl) (ld26 (hS.2.2.2.1))) (⟨bO40_0.1, bO40_1.1, bO40_2.1, bO40_3.1, b3.1, bO1_3.1⟩) ?_
         refine wS 6 hR (sn_call (f := 18) (args := #[.agg #[.slice (some ⟨b92, o93, none⟩) 24 c33]]) (by kernel_rfl) ((Count_v _ _ hV94 hE (hT.ext hE)).mono ?_))
         rintro e w100 ⟨rfl, hb⟩
         replace hE := hE.trans hb; replace bO1_0 := BoxAt.ext hb bO1_0; replace bO1_1 := BoxAt.ext hb bO1_1; replace bO1_2 := BoxAt.ext hb bO1_2; replace bO1_3 := BoxAt.ext hb bO1_3; replace b3 := BoxAt.ext hb b3; replace vB := vB.ext hb; replace bO40_0 := BoxAt.ext hb bO40_0; replace bO40_1 := BoxAt.ext hb bO40_1; replace bO40_2 := BoxAt.ext hb bO40_2; replace bO40_3 := BoxAt.ext hb bO40_3; have hs101 := hb.size; clear hb
         refine ⟨_, rfl, ⟨bO40_0.1, bO40_1.1, bO40_2.1, bO40_3.1, b3.1, bO1_3.1⟩, ?_⟩
         refine wT 7 (.bool false) hR (fun w _ => ev_neq (show _ = Result.ok (Next.value (Value.bool (((((Globe.cellsTo p.rw 24).length : Nat) : Int) : Int) == (0 : Int)))) _ from by kernel_rfl) (Prod.noC_ne h2)) (⟨bO40_0.1, bO40_1.1, bO40_2.1, bO40_3.1, b3.1, bO1_3.1⟩) ?_
         refine wT 8 (.bool false) hR (fun w _ => by kernel_rfl) (⟨bO40_0.1, bO40_1.1, bO40_2.1, bO40_3.1, b3.1, bO1_3.1⟩) ?_
         refine wT 9 (.bool false) hR (fun w _ => by kernel_rfl) (⟨bO40_0.1, bO40_1.1, bO40_2.1, bO40_3.1, b3.1, bO1_3.1⟩) ?_
         refine wT 10 (.agg #[.slice (some ⟨BB, oB, none⟩) 24 kB]) hR (fun w hS => ex_load rfl (by kernel_rfl) (ld26 (hS.2.2.2.2.1))) (⟨bO40_0.1, bO40_1.1, bO40_2.1, bO40_3.1, b3.1, bO1_3.1⟩) ?_
         refine wT 11 (.pointer (some ⟨O40, 3, none⟩)) hR (fun w _ => by kernel_rfl) (⟨bO40_0.1, bO40_1.1, bO40_2.1, bO40_3.1, b3.1, bO1_3.1⟩) ?_
         refine wT 12 (.agg #[.slice (some ⟨b92, o93, none⟩) 24 c33]) hR (fun w hS => ex_load rfl (by kernel_rfl) (ld26 (hS.2.2.2.1))) (⟨bO40_0.1, bO40_1.1, bO40_2.1, bO40_3.1, b3.1, bO1_3.1⟩) ?_
         refine wS 13 hR (sn_call (f := 23) (args := #[.agg #[.slice (some ⟨BB, oB, none⟩) 24 kB], .agg #[.slice (some ⟨b92, o93, none⟩) 24 c33]]) (by kernel_rfl) ((Contains_q (r := true) _ _ _ (vB.aa) (Ext.refl _) (hV94.aa) hE h3).mono ?_))
         rintro e w102 ⟨rfl, hb⟩
         replace hE := hE.trans hb; replace bO1_0 := BoxAt.ext hb bO1_0; replace bO1_1 := BoxAt.ext hb bO1_1; replace bO1_2 := BoxAt.ext hb bO1_2; replace bO1_3 := BoxAt.ext hb bO1_3; replace b3 := BoxAt.ext hb b3; replace vB := vB.ext hb; replace bO40_0 := BoxAt.ext hb bO40_0; replace bO40_1 := BoxAt.ext hb bO40_1; replace bO40_2 := BoxAt.ext hb bO40_2; replace bO40_3 := BoxAt.ext hb bO40_3; have hs103 := hb.size; clear hb
         refine ⟨_, rfl, ⟨bO40_0.1, bO40_1.1, bO40_2.1, bO40_3.1, b3.1, bO1_3.1⟩, ?_⟩
         refine wT 14 (.bool false) hR (fun w _ => by kernel_rfl) (⟨bO40_0.1, bO40_1.1, bO40_2.1, bO40_3.1, b3.1, bO1_3.1⟩) ?_
         refine wT 15 (.bool false) hR (fun w _ => by kernel_rfl) (⟨bO40_0.1, bO40_1.1, bO40_2.1, bO40_3.1, b3.1, bO1_3.1⟩) ?_
         refine wT 16 (.bool false) hR (fun w _ => by kernel_rfl) (⟨bO40_0.1, bO40_1.1, bO40_2.1, bO40_3.1, b3.1, bO1_3.1⟩) ?_
         refine wT 17 (.int .i64 (((i : Nat) : Int) : Int)) hR (fun w _ => by kernel_rfl) (⟨bO40_0.1, bO40_1.1, bO40_2.1, bO40_3.1, b3.1, bO1_3.1⟩) ?_
         refine wT 18 (.bool false) hR (fun w _ => ev_ndec (show _ = Result.ok (Next.value (Value.bool (decide ((((i : Nat) : Int) : Int) > (0 : Int))))) _ from by kernel_rfl) (by omega)) (⟨bO40_0.1, bO40_1.1, bO40_2.1, bO40_3.1, b3.1, bO1_3.1⟩) ?_
         refine wT 19 (.bool false) hR (fun w _ => by kernel_rfl) (⟨bO40_0.1, bO40_1.1, bO40_2.1, bO40_3.1, b3.1, bO1_3.1⟩) ?_
         refine wd_skip 20 hR rfl (by kernel_rfl) rfl (by kernel_rfl) (⟨bO40_0.1, bO40_1.1, bO40_2.1, bO40_3.1, b3.1, bO1_3.1⟩) ?_
         refine wd_skip 21 hR rfl (by kernel_rfl) rfl (by kernel_rfl) (⟨bO40_0.1, bO40_1.1, bO40_2.1, bO40_3.1, b3.1, bO1_3.1⟩) ?_
         refine wd_skip 22 hR rfl (by kernel_rfl) rfl (by kernel_rfl) (⟨bO40_0.1, bO40_1.1, bO40_2.1, bO40_3.1, b3.1, bO1_3.1⟩) ?_
         refine wd_skip 23 hR rfl (by kernel_rfl) rfl (by kernel_rfl) (⟨bO40_0.1, bO40_1.1, bO40_2.1, bO40_3.1, b3.1, bO1_3.1⟩) ?_
         refine wd_skip 24 hR rfl (by kernel_rfl) rfl (by kernel_rfl) (⟨bO40_0.1, bO40_1.1, bO40_2.1, bO40_3.1, b3.1, bO1_3.1⟩) ?_
         refine wd_skip 25 hR rfl (by kernel_rfl) rfl (by kernel_rfl) (⟨bO40_0.1, bO40_1.1, bO40_2.1, bO40_3.1, b3.1, bO1_3.1⟩) ?_
         refine wd_skip 26 hR rfl (by kernel_rfl) rfl (by kernel_rfl) (⟨bO40_0.1, bO40_1.1, bO40_2.1, bO40_3.1, b3.1, bO1_3.1⟩) ?_
         refine wd_skip 27 hR rfl (by kernel_rfl) rfl (by kernel_rfl) (⟨bO40_0.1, bO40_1.1, bO40_2.1, bO40_3.1, b3.1, bO1_3.1⟩) ?_
         refine wd_skip 28 hR rfl (by kernel_rfl) rfl (by kernel_rfl) (⟨bO40_0.1, bO40_1.1, bO40_2.1, bO40_3.1, b3.1, bO1_3.1⟩) ?_
         refine wT 29 (.bool false) hR (fun w _ => by kernel_rfl) (⟨bO40_0.1, bO40_1.1, bO40_2.1, bO40_3.1, b3.1, bO1_3.1⟩) ?_
         refine wT 30 (.bool false) hR (fun w _ => by kernel_rfl) (⟨bO40_0.1, bO40_1.1, bO40_2.1, bO40_3.1, b3.1, bO1_3.1⟩) ?_
         refine wT 31 (.bool false) hR (fun w _ => by kernel_rfl) (⟨bO40_0.1, bO40_1.1, bO40_2.1, bO40_3.1, b3.1, bO1_3.1⟩) ?_
         refine wT 32 (.pointer (some ⟨O1, 3, none⟩)) hR (fun w _ => by kernel_rfl) (⟨bO40_0.1, bO40_1.1, bO40_2.1, bO40_3.1, b3.1, bO1_3.1⟩) ?_
         refine wT 33 (.slice (some ⟨b29, o30, none⟩) n c) hR (fun w hS => ex_load rfl (by kernel_rfl) (ld28 (hS.2.2.2.2.2))) (⟨bO40_0.1, bO40_1.1, bO40_2.1, bO40_3.1, b3.1, bO1_3.1⟩) ?_
         refine wT 34 (.int .i64 (((i : Nat) : Int) : Int)) hR (fun w _ => by kernel_rfl) (⟨bO40_0.1, bO40_1.1, bO40_2.1, bO40_3.1, b3.1, bO1_3.1⟩) ?_
         refine wT 35 (.slice (some ⟨b29, o30, none⟩) i c) hR (fun w _ => ex_slice (p := .slice (some ⟨b29, o30, none⟩) n c) rfl (by kernel_rfl) (by kernel_rfl) (by kernel_rfl) (by kernel_rfl) (sl28_010 (m := i) (by omega) (by omega))) (⟨bO40_0.1, bO40_1.1, bO40_2.1, bO40_3.1, b3.1, bO1_3.1⟩) ?_
         refine wT 36 (.pointer (some ⟨O40, 0, none⟩)) hR (fun w _ => by kernel_rfl) (⟨bO40_0.1, bO40_1.1, bO40_2.1, bO40_3.1, b3.1, bO1_3.1⟩) ?_
         refine wT 37 (.int .i64 p.im) hR (fun w hS => ex_load rfl (by kernel_rfl) (ld3 (hS.1))) (⟨bO40_0.1, bO40_1.1, bO40_2.1, bO40_3.1, b3.1, bO1_3.1⟩) ?_
         refine wS 38 hR (sn_call (f := 34) (args := #[.int .i64 p.im]) (by kernel_rfl) ((twin_c p.im _).mono ?_))
         rintro e w107 ⟨B104, rfl, hn105, hc106, hb⟩
         replace hE := hE.trans hb; replace bO1_0 := BoxAt.ext hb bO1_0; replace bO1_1 := BoxAt.ext hb bO1_1; replace bO1_2 := BoxAt.ext hb bO1_2; replace bO1_3 := BoxAt.ext hb bO1_3; replace b3 := BoxAt.ext hb b3; replace vB := vB.ext hb; replace bO40_0 := BoxAt.ext hb bO40_0; replace bO40_1 := BoxAt.ext hb bO40_1; replace bO40_2 := BoxAt.ext hb bO40_2; replace bO40_3 := BoxAt.ext hb bO40_3; have hs108 := hb.size; clear hb
         have lt109 := World.block_lt_of_cell? _ _ hc106
         refine ⟨_, rfl, ⟨bO40_0.1, bO40_1.1, bO40_2.1, bO40_3.1, b3.1, bO1_3.1⟩, ?_⟩
         refine wS 39 hR (sn_call (f := 33) (args := #[.slice (some ⟨b29, o30, none⟩) i c, .func (.func 58) #[] #[.pointer (some ⟨B104, 0, none⟩)]]) (by kernel_rfl) ((ContainsTwin_r (r := false) _ _ ((hP).take (by omega)) hE (hc106) (Ext.refl _) h5).mono ?_))
         rintro e w110 ⟨rfl, hb⟩
         replace hE := hE.trans hb; replace bO1_0 := BoxAt.ext hb bO1_0; replace bO1_1 := BoxAt.ext hb bO1_1; replace bO1_2 := BoxAt.ext hb bO1_2; replace bO1_3 := BoxAt.ext hb bO1_3; replace b3 := BoxAt.ext hb b3; replace vB := vB.ext hb; replace bO40_0 := BoxAt.ext hb bO40_0; replace bO40_1 := BoxAt.ext hb bO40_1; replace bO40_2 := BoxAt.ext hb bO40_2; replace bO40_3 := BoxAt.ext hb bO40_3; replace hc106 := hb.cell hc106; have hs111 := hb.size; clear hb
         refine ⟨_, rfl, ⟨bO40_0.1, bO40_1.1, bO40_2.1, bO40_3.1, b3.1, bO1_3.1⟩, ?_⟩
         refine wT 40 (.bool false) hR (fun w _ => by kernel_rfl) (⟨bO40_0.1, bO40_1.1, bO40_2.1, bO40_3.1, b3.1, bO1_3.1⟩) ?_
         refine wd_end hL hR hK (by kernel_rfl) ?_
         refine qw_then ?_; refine cC7 1 3 5 31 32 33 78 (fun L => ?_)
         refine cw_f (by kernel_rfl) ?_
         refine cw_skip ?_
         refine qw_then ?_; refine cw_plain ?_
         refine pU (.agg #[.slice (some ⟨BB, oB, none⟩) 24 kB]) (ex_load rfl (by kernel_rfl) (ld26 (b3.1))) ?_
         refine pT (.pointer (some ⟨O40, 3, none⟩)) ?_
         refine pU (.agg #[.slice (some ⟨b92, o93, none⟩) 24 c33]) (ex_load rfl (by kernel_rfl) (ld26 (bO40_3.1))) ?_
         refine pS (sn_call (f := 39) (args := #[.agg #[.slice (some ⟨BB, oB, none⟩) 24 kB], .agg #[.slice (some ⟨b92, o93, none⟩) 24 c33]]) (by kernel_rfl) ((lessP_v _ _ _ vB (Ext.refl _) hV94 hE).mono ?_))
         rintro e w116 ⟨B112, k113, rfl, hn114, hv115, hb⟩
         replace hE := hE.trans hb; replace bO1_0 := BoxAt.ext hb bO1_0; replace bO1_1 := BoxAt.ext hb bO1_1; replace bO1_2 := BoxAt.ext hb bO1_2; replace bO1_3 := BoxAt.ext hb bO1_3; replace b3 := BoxAt.ext hb b3; replace vB := vB.ext hb; replace bO40_0 := BoxAt.ext hb bO40_0; replace bO40_1 := BoxAt.ext hb bO40_1; replace bO40_2 := BoxAt.ext hb bO40_2; replace bO40_3 := BoxAt.ext hb bO40_3; replace hc106 := hb.cell hc106; have hs117 := hb.size; clear hb; have lt118 := hv115.lt
         refine ⟨_, rfl, ?_⟩
         refine pP (sn_set (O := O19) (j := 0) (v := .slice (some ⟨B112, 0, none⟩) 24 k113) (ex_store (p := .pointer (some ⟨O19, 0, none⟩)) (v := .agg #[.slice (some ⟨B112, 0, none⟩) 24 k113]) rfl (by kernel_rfl) (by kernel_rfl) (st26 b3.1 b3.2)) b3 ?_)
         intro X119 ho hv0 hk; replace hE := ho.ext hE (T (T hs3 (T hs7 (T hs10 hs13))) (Nat.le_of_eq hzO19))
         have q9 := fun (j : Nat) (v : Value) (h : BoxAt _ O1 j v) => ho.box (Nat.ne_of_gt (Nat.lt_of_lt_of_le lt4 (T (T hs7 (T hs10 hs13)) (Nat.le_of_eq hzO19)))) h
         replace bO1_0 := q9 _ _ bO1_0; replace bO1_1 := q9 _ _ bO1_1; replace bO1_2 := q9 _ _ bO1_2; replace bO1_3 := q9 _ _ bO1_3; clear q9; replace vB := ho.va hne.out vB
         have q9 := fun (j : Nat) (v : Value) (h : BoxAt _ O40 j v) => ho.box (Nat.ne_of_lt (Nat.lt_of_lt_of_le lt22 (T (T hs24 hs25) (Nat.le_of_eq hzO40)))) h
         replace bO40_0 := q9 _ _ bO40_0; replace bO40_1 := q9 _ _ bO40_1; replace bO40_2 := q9 _ _ bO40_2; replace bO40_3 := q9 _ _ bO40_3; clear q9; replace hc106 := ho.cell (Nat.ne_of_lt (Nat.lt_of_lt_of_le lt22 (T (T hs24 (T hs25 (T hs42 (T hs45 (T hs97 (T hs99 (T hs101 hs103))))))) hn105))) hc106; replace hv115 := ho.va (Nat.ne_of_lt (Nat.lt_of_lt_of_le lt22 (T (T hs24 (T hs25 (T hs42 (T hs45 (T hs97 (T hs99 (T hs101 (T hs103 (T hs108 hs111))))))))) hn114))) hv115; have hs120 : w116.heap.size ≤ X119.heap.size := Nat.le_of_eq ho.size.symm; clear ho hk b3; have b3 := hv0; clear hv0; refine pl_nil ?_
         refine qw_block ?_
         refine qw_then ?_; refine cw_plain ?_
         refine pU (.int .i64 (((i + 1 : Nat) : Int) : Int)) (ev_wrap (by kernel_rfl) (by omega) (by omega)) ?_
         refine pT (.int .i64 (((i + 1 : Nat) : Int) : Int)) ?_; refine pl_nil ?_
         refine qw_round [1, 3, 31, 32, 33] (ws' := [(1, .pointer (some ⟨O1, 0, none⟩)), (3, .pointer (some ⟨O19, 0, none⟩)), (31, .slice (some ⟨b29, o30, none⟩) n c), (32, .int .i64 (((n : Nat) : Int) : Int)), (33, .int .i64 (((i + 1 : Nat) : Int) : Int))]) (by kernel_rfl) _ ?_ ⟨(i + 1), B112, 0, k113, rfl, rfl, (T hs25 (T hs42 (T hs45 (T hs97 (T hs99 (T hs101 (T hs103 (T hs108 (T hs111 (T hs117 hs120)))))))))), hE, bO1_0, bO1_1, bO1_2, bO1_3, b3, (by rw [hrs]; exact hv115), by omega, (by rw [Hv, hst, hso, ← hrs, ← htk]; rfl), Lib.hid (Nat.ne_of_lt (Nat.lt_of_lt_of_le lt22 (T (T hs24 (T hs25 (T hs42 (T hs45 (T hs97 (T hs99 (T hs101 (T hs103 (T hs108 hs111))))))))) hn114)))⟩
         omega
       ·
        have hgl := Prod.take_last (l := ps) (i := i) (by omega) (by omega)
        obtain ⟨p9, hp9⟩ : ∃ p9, ps[i - 1]? = some p9 := ⟨_, List.getElem?_eq_getElem (by omega)⟩
        rw [hp9] at hgl
        rcases Bool.eq_false_or_eq_true (Prod.better p p9) with h6 | h6
        ·
         rcases Bool.eq_false_or_eq_true (Prod.hasIm (ps.take i) p.im) with h5 | h5
         ·
          obtain ⟨b121, o122, rfl, rfl, hV123⟩ := va_of hA39 (Prod.okP_t.1 h1).2.2
          have lt124 := hV123.lt
          obtain ⟨p0, ar0, k0, c0, hx0, z0, z1, z2, z3⟩ := PcsAt.get hP (i := i - 1) (by omega)
          obtain rfl : p0 = p9 := Option.some.inj (hx0.symm.trans hp9)
          have hso : Prod.stepOk (Prod.rest ar (ps.take i)) (ps.take i) p = false := by rw [Prod.step_later h1 h2 h3 hgl h6, show (!(ps.take i).any fun q => decide (q.im = p.im)) = !(Prod.hasIm (ps.take i) p.im) from rfl, h5]; rfl
          refine cw_draw [(some 38, [5], []), (some 39, [38], [0]), (some 40, [39], [1]), (some 41, [40], [2, 1]), (some 42, [5, 41], [3]), (some 43, [42, 41], [4, 3]), (some 44, [43, 41], [5, 3, 3]), (some 45, [44, 41], [6, 3]), (some 46, [41, 45], [3, 7]), (some 47, [46], [8, 6]), (some 48, [3, 47], [9]), (some 49, [5, 47], [9]), (some 50, [49, 47], [11, 9]), (some 51, [48, 50, 47], [10, 12, 9, 9]), (some 52, [51, 47], [13, 9]), (some 53, [47, 52], [9, 14]), (some 54, [53], [15, 13]), (some 55, [4, 54], [16]), (some 56, [55, 54], [17, 16]), (some 57, [56, 54], [18, 16, 16]), (some 58, [5, 57], [19]), (some 59, [1, 57], [19]), (some 60, [59, 57], [21, 19]), (some 61, [4, 57], [19]), (some 62, [61, 57], [23, 19]), (some 63, [60, 62, 57], [22, 24, 19]), (some 64, [63, 57], [25, 19]), (some 65, [58, 64, 57], [20, 26, 19, 19]), (some 66, [65, 57], [27, 19]), (some 67, [57, 66, 54], [19, 28, 16]), (some 68, [54, 67], [16, 29]), (some 69, [68], [30, 27]), (some 70, [1, 69], [31]), (some 71, [70, 69], [32, 31]), (some 72, [4, 69], [31]), (some 73, [71, 72, 69], [33, 34, 31]), (some 74, [5, 69], [31]), (some 75, [74, 69], [36, 31]), (some 76, [75, 69], [37, 31, 31]), (some 77, [73, 76, 69], [35, 38, 38, 31]), (some 78, [69, 77], [31, 39])] (fun w' => w'.cell? ⟨O40, 0, none⟩ = some (.int .i64 p.im) ∧ w'.cell? ⟨O40, 1, none⟩ = some (.int .i64 p.t) ∧ w'.cell? ⟨O40, 2, none⟩ = some (.bool p.cl) ∧ w'.cell? ⟨O40, 3, none⟩ = some (.slice (some ⟨b121, o122, none⟩) 24 c33) ∧ w'.cell? ⟨O19, 0, none⟩ = some (.slice (some ⟨BB, oB, none⟩) 24 kB) ∧ w'.cell? ⟨O1, 3, none⟩ = some (.slice (some ⟨b29, o30, none⟩) n c) ∧ w'.cell? ⟨b29, o30 + (i - 1) * 4, none⟩ = some (.int .i64 p0.im) ∧ w'.cell? ⟨b29, o30 + (i - 1) * 4 + 1, none⟩ = some (.int .i64 p0.t) ∧ w'.cell? ⟨b29, o30 + (i - 1) * 4 + 2, none⟩ = some (.bool p0.cl) ∧ w'.cell? ⟨b29, o30 + (i - 1) * 4 + 3, none⟩ = some (.slice ar0 k0 c0)) (by kernel_rfl) (by kernel_rfl) (by kernel_rfl) (by kernel_rfl) ((calm_then (calm_then (calm_block (calm_then (calm_then (calm_block (calm_then calm_body)))))))) (⟨bO40_0.1, bO40_1.1, bO40_2.1, bO40_3.1, b3.1, bO1_3.1, (hE.cell z0), (hE.cell z1), (hE.cell z2), (hE.cell z3)⟩) (fun ops Q X125 hb hL hR hK => ?_)
          replace hE := hE.trans hb; replace bO1_0 := BoxAt.ext hb bO1_0; replace bO1_1 := BoxAt.ext hb bO1_1; replace bO1_2 := BoxAt.ext hb bO1_2; replace bO1_3 := BoxAt.ext hb bO1_3; replace b3 := BoxAt.ext hb b3; replace vB := vB.ext hb; replace bO40_0 := BoxAt.ext hb bO40_0; replace bO40_1 := BoxAt.ext hb bO40_1; replace bO40_2 := BoxAt.ext hb bO40_2; replace bO40_3 := BoxAt.ext hb bO40_3; have hs126 := hb.size; clear hb
          refine wT 0 (.agg #[.int .i64 p.im, .int .i64 p.t, .bool p.cl, .slice (some ⟨b121, o122, none⟩) 24 c33]) hR (fun w hS => ex_load rfl (by kernel_rfl) (ld41 (hS.1) (hS.2.1) (hS.2.2.1) (hS.2.2.2.1))) (⟨bO40_0.1, bO40_1.1, bO40_2.1, bO40_3.1, b3.1, bO1_3.1, (hE.cell z0), (hE.cell z1), (hE.cell z2), (hE.cell z3)⟩) ?_
          refine wS 1 hR (sn_call (f := 32) (args := #[.agg #[.int .i64 p.im, .int .i64 p.t, .bool p.cl, .slice (some ⟨b121, o122, none⟩) 24 c33]]) (by kernel_rfl) ((right_r (x := p) (r := true) _ (hV123.aa) hE h1).mono ?_))
          rintro e w127 ⟨rfl, hb⟩
          replace hE := hE.trans hb; replace bO1_0 := BoxAt.ext hb bO1_0; replace bO1_1 := BoxAt.ext hb bO1_1; replace bO1_2 := BoxAt.ext hb bO1_2; replace bO1_3 := BoxAt.ext hb bO1_3; replace b3 := BoxAt.ext hb b3; replace vB := vB.ext hb; replace bO40_0 := BoxAt.ext hb bO40_0; replace bO40_1 := BoxAt.ext hb bO40_1; replace bO40_2 := BoxAt.ext hb bO40_2; replace bO40_3 := BoxAt.ext hb bO40_3; have hs128 := hb.size; clear hb
          refine ⟨_, rfl, ⟨bO40_0.1, bO40_1.1, bO40_2.1, bO40_3.1, b3.1, bO1_3.1, (hE.cell z0), (hE.cell z1), (hE.cell z2), (hE.cell z3)⟩, ?_⟩
          refine wT 2 (.bool false) hR (fun w _ => by kernel_rfl) (⟨bO40_0.1, bO40_1.1, bO40_2.1, bO40_3.1, b3.1, bO1_3.1, (hE.cell z0), (hE.cell z1), (hE.cell z2), (hE.cell z3)⟩) ?_
          refine wT 3 (.bool false) hR (fun w _ => by kernel_rfl) (⟨bO40_0.1, bO40_1.1, bO40_2.1, bO40_3.1, b3.1, bO1_3.1, (hE.cell z0), (hE.cell z1), (hE.cell z2), (hE.cell z3)⟩) ?_
          refine wT 4 (.pointer (some ⟨O40, 3, none⟩)) hR (fun w _ => by kernel_rfl) (⟨bO40_0.1, bO40_1.1, bO40_2.1, bO40_3.1, b3.1, bO1_3.1, (hE.cell z0), (hE.cell z1), (hE.cell z2), (hE.cell z3)⟩) ?_
          refine wT 5 (.agg #[.slice (some ⟨b121, o122, none⟩) 24 c33]) hR (fun w hS => ex_load rfl (by kernel_rfl) (ld26 (hS.2.2.2.1))) (⟨bO40_0.1, bO40_1.1, bO40_2.1, bO40_3.1, b3.1, bO1_3.1, (hE.cell z0), (hE.cell z1), (hE.cell z2), (hE.cell z3)⟩) ?_
          refine wS 6 hR (sn_call (f := 18) (args := #[.agg #[.slice (some ⟨b121, o122, none⟩) 24 c33]]) (by kernel_rfl) ((Count_v _ _ hV123 hE (hT.ext hE)).mono ?_))
          rintro e w129 ⟨rfl, hb⟩
          replace hE := hE.trans hb; replace bO1_0 := BoxAt.ext hb bO1_0; replace bO1_1 := BoxAt.ext hb bO1_1; replace bO1_2 := BoxAt.ext hb bO1_2; replace bO1_3 := BoxAt.ext hb bO1_3; replace b3 := BoxAt.ext hb b3; replace vB := vB.ext hb; replace bO40_0 := BoxAt.ext hb bO40_0; replace bO40_1 := BoxAt.ext hb bO40_1; replace bO40_2 := BoxAt.ext hb bO40_2; replace bO40_3 := BoxAt.ext hb bO40_3; have hs130 := hb.size; clear hb
          refine ⟨_, rfl, ⟨bO40_0.1, bO40_1.1, bO40_2.1, bO40_3.1, b3.1, bO1_3.1, (hE.cell z0), (hE.cell z1), (hE.cell z2), (hE.cell z3)⟩, ?_⟩
          refine wT 7 (.bool false) hR (fun w _ => ev_neq (show _ = Result.ok (Next.value (Value.bool (((((Globe.cellsTo p.rw 24).length : Nat) : Int) : Int) == (0 : Int)))) _ from by kernel_rfl) (Prod.noC_ne h2)) (⟨bO40_0.1, bO40_1.1, bO40_2.1, bO40_3.1, b3.1, bO1_3.1, (hE.cell z0), (hE.cell z1), (hE.cell z2), (hE.cell z3)⟩) ?_
          refine wT 8 (.bool false) hR (fun w _ => by kernel_rfl) (⟨bO40_0.1, bO40_1.1, bO40_2.1, bO40_3.1, b3.1, bO1_3.1, (hE.cell z0), (hE.cell z1), (hE.cell z2), (hE.cell z3)⟩) ?_
          refine wT 9 (.bool false) hR (fun w _ => by kernel_rfl) (⟨bO40_0.1, bO40_1.1, bO40_2.1, bO40_3.1, b3.1, bO1_3.1, (hE.cell z0), (hE.cell z1), (hE.cell z2), (hE.cell z3)⟩) ?_
          refine wT 10 (.agg #[.slice (some ⟨BB, oB, none⟩) 24 kB]) hR (fun w hS => ex_load rfl (by kernel_rfl) (ld26 (hS.2.2.2.2.1))) (⟨bO40_0.1, bO40_1.1, bO40_2.1, bO40_3.1, b3.1, bO1_3.1, (hE.cell z0), (hE.cell z1), (hE.cell z2), (hE.cell z3)⟩) ?_
          refine wT 11 (.pointer (some ⟨O40, 3, none⟩)) hR (fun w _ => by kernel_rfl) (⟨bO40_0.1, bO40_1.1, bO40_2.1, bO40_3.1, b3.1, bO1_3.1, (hE.cell z0), (hE.cell z1), (hE.cell z2), (hE.cell z3)⟩) ?_
          refine wT 12 (.agg #[.slice (some ⟨b121, o122, none⟩) 24 c33]) hR (fun w hS => ex_load rfl (by kernel_rfl) (ld26 (hS.2.2.2.1))) (⟨bO40_0.1, bO40_1.1, bO40_2.1, bO40_3.1, b3.1, bO1_3.1, (hE.cell z0), (hE.cell z1), (hE.cell z2), (hE.cell z3)⟩) ?_
          refine wS 13 hR (sn_call (f := 23) (args := #[.agg #[.slice (some ⟨BB, oB, none⟩) 24 kB], .agg #[.slice (some ⟨b121, o122, none⟩) 24 c33]]) (by kernel_rfl) ((Contains_q (r := true) _ _ _ (vB.aa) (Ext.refl _) (hV123.aa) hE h3).mono ?_))
          rintro e w131 ⟨rfl, hb⟩
          replace hE := hE.trans hb; replace bO1_0 := BoxAt.ext hb bO1_0; replace bO1_1 := BoxAt.ext hb bO1_1; replace bO1_2 := BoxAt.ext hb bO1_2; replace bO1_3 := BoxAt.ext hb bO1_3; replace b3 := BoxAt.ext hb b3; replace vB := vB.ext hb; replace bO40_0 := BoxAt.ext hb bO40_0; replace bO40_1 := BoxAt.ext hb bO40_1; replace bO40_2 := BoxAt.ext hb bO40_2; replace bO40_3 := BoxAt.ext hb bO40_3; have hs132 := hb.size; clear hb
          refine ⟨_, rfl, ⟨bO40_0.1, bO40_1.1, bO40_2.1, bO40_3.1, b3.1, bO1_3.1, (hE.cell z0), (hE.cell z1), (hE.cell z2), (hE.cell z3)⟩, ?_⟩
          refine wT 14 (.bool false) hR (fun w _ => by kernel_rfl) (⟨bO40_0.1, bO40_1.1, bO40_2.1, bO40_3.1, b3.1, bO1_3.1, (hE.cell z0), (hE.cell z1), (hE.cell z2), (hE.cell z3)⟩) ?_
          refine wT 15 (.bool false) hR (fun w _ => by kernel_rfl) (⟨bO40_0.1, bO40_1.1, bO40_2.1, bO40_3.1, b3.1, bO1_3.1, (hE.cell z0), (hE.cell z1), (hE.cell z2), (hE.cell z3)⟩) ?_
          refine wT 16 (.bool false) hR (fun w _ => by kernel_rfl) (⟨bO40_0.1, bO40_1.1, bO40_2.1, bO40_3.1, b3.1, bO1_3.1, (hE.cell z0), (hE.cell z1), (hE.cell z2), (hE.cell z3)⟩) ?_
          refine wT 17 (.int .i64 (((i : Nat) : Int) : Int)) hR (fun w _ => by kernel_rfl) (⟨bO40_0.1, bO40_1.1, bO40_2.1, bO40_3.1, b3.1, bO1_3.1, (hE.cell z0), (hE.cell z1), (hE.cell z2), (hE.cell z3)⟩) ?_
          refine wT 18 (.bool true) hR (fun w _ => ev_dec (show _ = Result.ok (Next.value (Value.bool (decide ((((i : Nat) : Int) : Int) > (0 : Int))))) _ from by kernel_rfl) (by omega)) (⟨bO40_0.1, bO40_1.1, bO40_2.1, bO40_3.1, b3.1, bO1_3.1, (hE.cell z0), (hE.cell z1), (hE.cell z2), (hE.cell z3)⟩) ?_
          refine wT 19 (.bool true) hR (fun w _ => by kernel_rfl) (⟨bO40_0.1, bO40_1.1, bO40_2.1, bO40_3.1, b3.1, bO1_3.1, (hE.cell z0), (hE.cell z1), (hE.cell z2), (hE.cell z3)⟩) ?_
          refine wT 20 (.agg #[.int .i64 p.im, .int .i64 p.t, .bool p.cl, .slice (some ⟨b121, o122, none⟩) 24 c33]) hR (fun w hS => ex_load rfl (by kernel_rfl) (ld41 (hS.1) (hS.2.1) (hS.2.2.1) (hS.2.2.2.1))) (⟨bO40_0.1, bO40_1.1, bO40_2.1, bO40_3.1, b3.1, bO1_3.1, (hE.cell z0), (hE.cell z1), (hE.cell z2), (hE.cell z3)⟩) ?_
          refine wT 21 (.pointer (some ⟨O1, 3, none⟩)) hR (fun w _ => by kernel_rfl) (⟨bO40_0.1, bO40_1.1, bO40_2.1, bO40_3.1, b3.1, bO1_3.1, (hE.cell z0), (hE.cell z1), (hE.cell z2), (hE.cell z3)⟩) ?_
          refine wT 22 (.slice (some ⟨b29, o30, none⟩) n c) hR (fun w hS => ex_load rfl (by kernel_rfl) (ld28 (hS.2.2.2.2.2.1))) (⟨bO40_0.1, bO40_1.1, bO40_2.1, bO40_3.1, b3.1, bO1_3.1, (hE.cell z0), (hE.cell z1), (hE.cell z2), (hE.cell z3)⟩) ?_
          refine wT 23 (.int .i64 (((i : Nat) : Int) : Int)) hR (fun w _ => by kernel_rfl) (⟨bO40_0.1, bO40_1.1, bO40_2.1, bO40_3.1, b3.1, bO1_3.1, (hE.cell z0), (hE.cell z1), (hE.cell z2), (hE.cell z3)⟩) ?_
          refine wT 24 (.int .i64 (((i - 1 : Nat) : Int) : Int)) hR (fun w _ => ev_int (ev_wrap (a := ((i : Nat) : Int) - 1) (by kernel_rfl) (by omega) (by omega)) (by omega)) (⟨bO40_0.1, bO40_1.1, bO40_2.1, bO40_3.1, b3.1, bO1_3.1, (hE.cell z0), (hE.cell z1), (hE.cell z2), (hE.cell z3)⟩) ?_
          refine wT 25 (.pointer (some ⟨b29, o30 + (i - 1) * 4, none⟩)) hR (fun w _ => ex_index (p := .slice (some ⟨b29, o30, none⟩) n c) (i := .int .i64 ((i - 1 : Nat) : Int)) rfl (by kernel_rfl) (by kernel_rfl) (ix28 (k := i - 1) (by omega))) (⟨bO40_0.1, bO40_1.1, bO40_2.1, bO40_3.1, b3.1, bO1_3.1, (hE.cell z0), (hE.cell z1), (hE.cell z2), (hE.cell z3)⟩) ?_
          refine wT 26 (.agg #[.int .i64 p0.im, .int .i64 p0.t, .bool p0.cl, .slice ar0 k0 c0]) hR (fun w hS => ex_load rfl (by kernel_rfl) (ld41 (hS.2.2.2.2.2.2.1) (hS.2.2.2.2.2.2.2.1) (hS.2.2.2.2.2.2.2.2.1) (hS.2.2.2.2.2.2.2.2.2))) (⟨bO40_0.1, bO40_1.1, bO40_2.1, bO40_3.1, b3.1, bO1_3.1, (hE.cell z0), (hE.cell z1), (hE.cell z2), (hE.cell z3)⟩) ?_
          refine wS 27 hR (sn_call (f := 47) (args := #[.agg #[.int .i64 p.im, .int .i64 p.t, .bool p.cl, .slice (some ⟨b121, o122, none⟩) 24 c33], .agg #[.int .i64 p0.im, .int .i64 p0.t, .bool p0.cl, .slice ar0 k0 c0]]) (by kernel_rfl) ((rank_c _).mono ?_))
          rintro e w133 ⟨rfl, hb⟩
          replace hE := hE.trans hb; replace bO1_0 := BoxAt.ext hb bO1_0; replace bO1_1 := BoxAt.ext hb bO1_1; replace bO1_2 := BoxAt.ext hb bO1_2; replace bO1_3 := BoxAt.ext hb bO1_3; replace b3 := BoxAt.ext hb b3; replace vB := vB.ext hb; replace bO40_0 := BoxAt.ext hb bO40_0; replace bO40_1 := BoxAt.ext hb bO40_1; replace bO40_2 := BoxAt.ext hb bO40_2; replace bO40_3 := BoxAt.ext hb bO40_3; have hs134 := hb.size; clear hb
          refine ⟨_, rfl, ⟨bO40_0.1, bO40_1.1, bO40_2.1, bO40_3.1, b3.1, bO1_3.1, (hE.cell z0), (hE.cell z1), (hE.cell z2), (hE.cell z3)⟩, ?_⟩
          refine wT 28 (.bool false) hR (fun w _ => ev_ndec (show _ = Result.ok (Next.value (Value.bool (decide ((Prod.rk p.cl p.t p.im p0.cl p0.t p0.im : Int) ≤ (0 : Int))))) _ from by kernel_rfl) (Int.not_le_of_gt (Prod.rk_pos.2 h6))) (⟨bO40_0.1, bO40_1.1, bO40_2.1, bO40_3.1, b3.1, bO1_3.1, (hE.cell z0), (hE.cell z1), (hE.cell z2), (hE.cell z3)⟩) ?_
          refine wT 29 (.bool false) hR (fun w _ => by kernel_rfl) (⟨bO40_0.1, bO40_1.1, bO40_2.1, bO40_3.1, b3.1, bO1_3.1, (hE.cell z0), (hE.cell z1), (hE.cell z2), (hE.cell z3)⟩) ?_
          refine wT 30 (.bool false) hR (fun w _ => by kernel_rfl) (⟨bO40_0.1, bO40_1.1, bO40_2.1, bO40_3.1, b3.1, bO1_3.1, (hE.cell z0), (hE.cell z1), (hE.cell z2), (hE.cell z3)⟩) ?_
          refine wT 31 (.bool false) hR (fun w _ => by kernel_rfl) (⟨bO40_0.1, bO40_1.1, bO40_2.1, bO40_3.1, b3.1, bO1_3.1, (hE.cell z0), (hE.cell z1), (hE.cell z2), (hE.cell z3)⟩) ?_
          refine wT 32 (.pointer (some ⟨O1, 3, none⟩)) hR (fun w _ => by kernel_rfl) (⟨bO40_0.1, bO40_1.1, bO40_2.1, bO40_3.1, b3.1, bO1_3.1, (hE.cell z0), (hE.cell z1), (hE.cell z2), (hE.cell z3)⟩) ?_
          refine wT 33 (.slice (some ⟨b29, o30, none⟩) n c) hR (fun w hS => ex_load rfl (by kernel_rfl) (ld28 (hS.2.2.2.2.2.1))) (⟨bO40_0.1, bO40_1.1, bO40_2.1, bO40_3.1, b3.1, bO1_3.1, (hE.cell z0), (hE.cell z1), (hE.cell z2), (hE.cell z3)⟩) ?_
          refine wT 34 (.int .i64 (((i : Nat) : Int) : Int)) hR (fun w _ => by kernel_rfl) (⟨bO40_0.1, bO40_1.1, bO40_2.1, bO40_3.1, b3.1, bO1_3.1, (hE.cell z0), (hE.cell z1), (hE.cell z2), (hE.cell z3)⟩) ?_
          refine wT 35 (.slice (some ⟨b29, o30, none⟩) i c) hR (fun w _ => ex_slice (p := .slice (some ⟨b29, o30, none⟩) n c) rfl (by kernel_rfl) (by kernel_rfl) (by kernel_rfl) (by kernel_rfl) (sl28_010 (m := i) (by omega) (by omega))) (⟨bO40_0.1, bO40_1.1, bO40_2.1, bO40_3.1, b3.1, bO1_3.1, (hE.cell z0), (hE.cell z1), (hE.cell z2), (hE.cell z3)⟩) ?_
          refine wT 36 (.pointer (some ⟨O40, 0, none⟩)) hR (fun w _ => by kernel_rfl) (⟨bO40_0.1, bO40_1.1, bO40_2.1, bO40_3.1, b3.1, bO1_3.1, (hE.cell z0), (hE.cell z1), (hE.cell z2), (hE.cell z3)⟩) ?_
          refine wT 37 (.int .i64 p.im) hR (fun w hS => ex_load rfl (by kernel_rfl) (ld3 (hS.1))) (⟨bO40_0.1, bO40_1.1, bO40_2.1, bO40_3.1, b3.1, bO1_3.1, (hE.cell z0), (hE.cell z1), (hE.cell z2), (hE.cell z3)⟩) ?_
          refine wS 38 hR (sn_call (f := 34) (args := #[.int .i64 p.im]) (by kernel_rfl) ((twin_c p.im _).mono ?_))
          rintro e w138 ⟨B135, rfl, hn136, hc137, hb⟩
          replace hE := hE.trans hb; replace bO1_0 := BoxAt.ext hb bO1_0; replace bO1_1 := BoxAt.ext hb bO1_1; replace bO1_2 := BoxAt.ext hb bO1_2; replace bO1_3 := BoxAt.ext hb bO1_3; replace b3 := BoxAt.ext hb b3; replace vB := vB.ext hb; replace bO40_0 := BoxAt.ext hb bO40_0; replace bO40_1 := BoxAt.ext hb bO40_1; replace bO40_2 := BoxAt.ext hb bO40_2; replace bO40_3 := BoxAt.ext hb bO40_3; have hs139 := hb.size; clear hb
          have lt140 := World.block_lt_of_cell? _ _ hc137
          refine ⟨_, rfl, ⟨bO40_0.1, bO40_1.1, bO40_2.1, bO40_3.1, b3.1, bO1_3.1, (hE.cell z0), (hE.cell z1), (hE.cell z2), (hE.cell z3)⟩, ?_⟩
          refine wS 39 hR (sn_call (f := 33) (args := #[.slice (some ⟨b29, o30, none⟩) i c, .func (.func 58) #[] #[.pointer (some ⟨B135, 0, none⟩)]]) (by kernel_rfl) ((ContainsTwin_r (r := true) _ _ ((hP).take (by omega)) hE (hc137) (Ext.refl _) h5).mono ?_))
          rintro e w141 ⟨rfl, hb⟩
          replace hE := hE.trans hb; replace bO1_0 := BoxAt.ext hb bO1_0; replace bO1_1 := BoxAt.ext hb bO1_1; replace bO1_2 := BoxAt.ext hb bO1_2; replace bO1_3 := BoxAt.ext hb bO1_3; replace b3 := BoxAt.ext hb b3; replace vB := vB.ext hb; replace bO40_0 := BoxAt.ext hb bO40_0; replace bO40_1 := BoxAt.ext hb bO40_1; replace bO40_2 := BoxAt.ext hb bO40_2; replace bO40_3 := BoxAt.ext hb bO40_3; replace hc137 := hb.cell hc137; have hs142 := hb.size; clear hb
          refine ⟨_, rfl, ⟨bO40_0.1, bO40_1.1, bO40_2.1, bO40_3.1, b3.1, bO1_3.1, (hE.cell z0), (hE.cell z1), (hE.cell z2), (hE.cell z3)⟩, ?_⟩
          refine wT 40 (.bool true) hR (fun w _ => by kernel_rfl) (⟨bO40_0.1, bO40_1.1, bO40_2.1, bO40_3.1, b3.1, bO1_3.1, (hE.cell z0), (hE.cell z1), (hE.cell z2), (hE.cell z3)⟩) ?_
          refine wd_end hL hR hK (by kernel_rfl) ?_
          refine qw_then ?_; refine cC7 1 3 5 31 32 33 78 (fun L => ?_)
          refine cw_t (by kernel_rfl) ?_
          refine cw_seq ?_; refine cw_plain ?_; refine pT (.bool false) ?_; refine pl_nil ?_; refine qw_then ?_
          refine cw_ret ?_
          refine qw_then_ret ?_
          refine qw_block_ret ?_
          refine qw_then_ret ?_
          refine qw_then_ret ?_
          refine qw_block_ret ?_
          refine qw_then_ret ?_
          refine qw_ret [.bool false] rfl ⟨(by kernel_rfl), trivial⟩ ?_
          exact ⟨congrArg (fun b => Ending.returned (Value.bool b)) (show Prod.validP id ver ar ps = false by unfold Prod.validP; rw [Hv, hst, hso]; simp).symm, hE⟩
         ·
          obtain ⟨b143, o144, rfl, rfl, hV145⟩ := va_of hA39 (Prod.okP_t.1 h1).2.2
          have lt146 := hV145.lt
          obtain ⟨p0, ar0, k0, c0, hx0, z0, z1, z2, z3⟩ := PcsAt.get hP (i := i - 1) (by omega)
          obtain rfl : p0 = p9 := Option.some.inj (hx0.symm.trans hp9)
          have hso : Prod.stepOk (Prod.rest ar (ps.take i)) (ps.take i) p = true := by rw [Prod.step_later h1 h2 h3 hgl h6, show (!(ps.take i).any fun q => decide (q.im = p.im)) = !(Prod.hasIm (ps.take i) p.im) from rfl, h5]; rfl
          refine cw_draw [(some 38, [5], []), (some 39, [38], [0]), (some 40, [39], [1]), (some 41, [40], [2, 1]), (some 42, [5, 41], [3]), (some 43, [42, 41], [4, 3]), (some 44, [43, 41], [5, 3, 3]), (some 45, [44, 41], [6, 3]), (some 46, [41, 45], [3, 7]), (some 47, [46], [8, 6]), (some 48, [3, 47], [9]), (some 49, [5, 47], [9]), (some 50, [49, 47], [11, 9]), (some 51, [48, 50, 47], [10, 12, 9, 9]), (some 52, [51, 47], [13, 9]), (some 53, [47, 52], [9, 14]), (some 54, [53], [15, 13]), (some 55, [4, 54], [16]), (some 56, [55, 54], [17, 16]), (some 57, [56, 54], [18, 16, 16]), (some 58, [5, 57], [19]), (some 59, [1, 57], [19]), (some 60, [59, 57], [21, 19]), (some 61, [4, 57], [19]), (some 62, [61, 57], [23, 19]), (some 63, [60, 62, 57], [22, 24, 19]), (some 64, [63, 57], [25, 19]), (some 65, [58, 64, 57], [20, 26, 19, 19]), (some 66, [65, 57], [27, 19]), (some 67, [57, 66, 54], [19, 28, 16]), (some 68, [54, 67], [16, 29]), (some 69, [68], [30, 27]), (some 70, [1, 69], [31]), (some 71, [70, 69], [32, 31]), (some 72, [4, 69], [31]), (some 73, [71, 72, 69], [33, 34, 31]), (some 74, [5, 69], [31]), (some 75, [74, 69], [36, 31]), (some 76, [75, 69], [37, 31, 31]), (some 77, [73, 76, 69], [35, 38, 38, 31]), (some 78, [69, 77], [31, 39])] (fun w' => w'.cell? ⟨O40, 0, none⟩ = some (.int .i64 p.im) ∧ w'.cell? ⟨O40, 1, none⟩ = some (.int .i64 p.t) ∧ w'.cell? ⟨O40, 2, none⟩ = some (.bool p.cl) ∧ w'.cell? ⟨O40, 3, none⟩ = some (.slice (some ⟨b143, o144, none⟩) 24 c33) ∧ w'.cell? ⟨O19, 0, none⟩ = some (.slice (some ⟨BB, oB, none⟩) 24 kB) ∧ w'.cell? ⟨O1, 3, none⟩ = some (.slice (some ⟨b29, o30, none⟩) n c) ∧ w'.cell? ⟨b29, o30 + (i - 1) * 4, none⟩ = some (.int .i64 p0.im) ∧ w'.cell? ⟨b29, o30 + (i - 1) * 4 + 1, none⟩ = some (.int .i64 p0.t) ∧ w'.cell? ⟨b29, o30 + (i - 1) * 4 + 2, none⟩ = some (.bool p0.cl) ∧ w'.cell? ⟨b29, o30 + (i - 1) * 4 + 3, none⟩ = some (.slice ar0 k0 c0)) (by kernel_rfl) (by kernel_rfl) (by kernel_rfl) (by kernel_rfl) ((calm_then (calm_then (calm_block (calm_then (calm_then (calm_block (calm_then calm_body)))))))) (⟨bO40_0.1, bO40_1.1, bO40_2.1, bO40_3.1, b3.1, bO1_3.1, (hE.cell z0), (hE.cell z1), (hE.cell z2), (hE.cell z3)⟩) (fun ops Q X147 hb hL hR hK => ?_)
          replace hE := hE.trans hb; replace bO1_0 := BoxAt.ext hb bO1_0; replace bO1_1 := BoxAt.ext hb bO1_1; replace bO1_2 := BoxAt.ext hb bO1_2; replace bO1_3 := BoxAt.ext hb bO1_3; replace b3 := BoxAt.ext hb b3; replace vB := vB.ext hb; replace bO40_0 := BoxAt.ext hb bO40_0; replace bO40_1 := BoxAt.ext hb bO40_1; replace bO40_2 := BoxAt.ext hb bO40_2; replace bO40_3 := BoxAt.ext hb bO40_3; have hs148 := hb.size; clear hb
          refine wT 0 (.agg #[.int .i64 p.im, .int .i64 p.t, .bool p.cl, .slice (some ⟨b143, o144, none⟩) 24 c33]) hR (fun w hS => ex_load rfl (by kernel_rfl) (ld41 (hS.1) (hS.2.1) (hS.2.2.1) (hS.2.2.2.1))) (⟨bO40_0.1, bO40_1.1, bO40_2.1, bO40_3.1, b3.1, bO1_3.1, (hE.cell z0), (hE.cell z1), (hE.cell z2), (hE.cell z3)⟩) ?_
          refine wS 1 hR (sn_call (f := 32) (args := #[.agg #[.int .i64 p.im, .int .i64 p.t, .bool p.cl, .slice (some ⟨b143, o144, none⟩) 24 c33]]) (by kernel_rfl) ((right_r (x := p) (r := true) _ (hV145.aa) hE h1).mono ?_))
          rintro e w149 ⟨rfl, hb⟩
          replace hE := hE.trans hb; replace bO1_0 := BoxAt.ext hb bO1_0; replace bO1_1 := BoxAt.ext hb bO1_1; replace bO1_2 := BoxAt.ext hb bO1_2; replace bO1_3 := BoxAt.ext hb bO1_3; replace b3 := BoxAt.ext hb b3; replace vB := vB.ext hb; replace bO40_0 := BoxAt.ext hb bO40_0; replace bO40_1 := BoxAt.ext hb bO40_1; replace bO40_2 := BoxAt.ext hb bO40_2; replace bO40_3 := BoxAt.ext hb bO40_3; have hs150 := hb.size; clear hb
          refine ⟨_, rfl, ⟨bO40_0.1, bO40_1.1, bO40_2.1, bO40_3.1, b3.1, bO1_3.1, (hE.cell z0), (hE.cell z1), (hE.cell z2), (hE.cell z3)⟩, ?_⟩
          refine wT 2 (.bool false) hR (fun w _ => by kernel_rfl) (⟨bO40_0.1, bO40_1.1, bO40_2.1, bO40_3.1, b3.1, bO1_3.1, (hE.cell z0), (hE.cell z1), (hE.cell z2), (hE.cell z3)⟩) ?_
          refine wT 3 (.bool false) hR (fun w _ => by kernel_rfl) (⟨bO40_0.1, bO40_1.1, bO40_2.1, bO40_3.1, b3.1, bO1_3.1, (hE.cell z0), (hE.cell z1), (hE.cell z2), (hE.cell z3)⟩) ?_
          refine wT 4 (.pointer (some ⟨O40, 3, none⟩)) hR (fun w _ => by kernel_rfl) (⟨bO40_0.1, bO40_1.1, bO40_2.1, bO40_3.1, b3.1, bO1_3.1, (hE.cell z0), (hE.cell z1), (hE.cell z2), (hE.cell z3)⟩) ?_
          refine wT 5 (.agg #[.slice (some ⟨b143, o144, none⟩) 24 c33]) hR (fun w hS => ex_load rfl (by kernel_rfl) (ld26 (hS.2.2.2.1))) (⟨bO40_0.1, bO40_1.1, bO40_2.1, bO40_3.1, b3.1, bO1_3.1, (hE.cell z0), (hE.cell z1), (hE.cell z2), (hE.cell z3)⟩) ?_
          refine wS 6 hR (sn_call (f := 18) (args := #[.agg #[.slice (some ⟨b143, o144, none⟩) 24 c33]]) (by kernel_rfl) ((Count_v _ _ hV145 hE (hT.ext hE)).mono ?_))
          rintro e w151 ⟨rfl, hb⟩
          replace hE := hE.trans hb; replace bO1_0 := BoxAt.ext hb bO1_0; replace bO1_1 := BoxAt.ext hb bO1_1; replace bO1_2 := BoxAt.ext hb bO1_2; replace bO1_3 := BoxAt.ext hb bO1_3; replace b3 := BoxAt.ext hb b3; replace vB := vB.ext hb; replace bO40_0 := BoxAt.ext hb bO40_0; replace bO40_1 := BoxAt.ext hb bO40_1; replace bO40_2 := BoxAt.ext hb bO40_2; replace bO40_3 := BoxAt.ext hb bO40_3; have hs152 := hb.size; clear hb
          refine ⟨_, rfl, ⟨bO40_0.1, bO40_1.1, bO40_2.1, bO40_3.1, b3.1, bO1_3.1, (hE.cell z0), (hE.cell z1), (hE.cell z2), (hE.cell z3)⟩, ?_⟩
          refine wT 7 (.bool false) hR (fun w _ => ev_neq (show _ = Result.ok (Next.value (Value.bool (((((Globe.cellsTo p.rw 24).length : Nat) : Int) : Int) == (0 : Int)))) _ from by kernel_rfl) (Prod.noC_ne h2)) (⟨bO40_0.1, bO40_1.1, bO40_2.1, bO40_3.1, b3.1, bO1_3.1, (hE.cell z0), (hE.cell z1), (hE.cell z2), (hE.cell z3)⟩) ?_
          refine wT 8 (.bool false) hR (fun w _ => by kernel_rfl) (⟨bO40_0.1, bO40_1.1, bO40_2.1, bO40_3.1, b3.1, bO1_3.1, (hE.cell z0), (hE.cell z1), (hE.cell z2), (hE.cell z3)⟩) ?_
          refine wT 9 (.bool false) hR (fun w _ => by kernel_rfl) (⟨bO40_0.1, bO40_1.1, bO40_2.1, bO40_3.1, b3.1, bO1_3.1, (hE.cell z0), (hE.cell z1), (hE.cell z2), (hE.cell z3)⟩) ?_
          refine wT 10 (.agg #[.slice (some ⟨BB, oB, none⟩) 24 kB]) hR (fun w hS => ex_load rfl (by kernel_rfl) (ld26 (hS.2.2.2.2.1))) (⟨bO40_0.1, bO40_1.1, bO40_2.1, bO40_3.1, b3.1, bO1_3.1, (hE.cell z0), (hE.cell z1), (hE.cell z2), (hE.cell z3)⟩) ?_
          refine wT 11 (.pointer (some ⟨O40, 3, none⟩)) hR (fun w _ => by kernel_rfl) (⟨bO40_0.1, bO40_1.1, bO40_2.1, bO40_3.1, b3.1, bO1_3.1, (hE.cell z0), (hE.cell z1), (hE.cell z2), (hE.cell z3)⟩) ?_
          refine wT 12 (.agg #[.slice (some ⟨b143, o144, none⟩) 24 c33]) hR (fun w hS => ex_load rfl (by kernel_rfl) (ld26 (hS.2.2.2.1))) (⟨bO40_0.1, bO40_1.1, bO40_2.1, bO40_3.1, b3.1, bO1_3.1, (hE.cell z0), (hE.cell z1), (hE.cell z2), (hE.cell z3)⟩) ?_
          refine wS 13 hR (sn_call (f := 23) (args := #[.agg #[.slice (some ⟨BB, oB, none⟩) 24 kB], .agg #[.slice (some ⟨b143, o144, none⟩) 24 c33]]) (by kernel_rfl) ((Contains_q (r := true) _ _ _ (vB.aa) (Ext.refl _) (hV145.aa) hE h3).mono ?_))
          rintro e w153 ⟨rfl, hb⟩
          replace hE := hE.trans hb; replace bO1_0 := BoxAt.ext hb bO1_0; replace bO1_1 := BoxAt.ext hb bO1_1; replace bO1_2 := BoxAt.ext hb bO1_2; replace bO1_3 := BoxAt.ext hb bO1_3; replace b3 := BoxAt.ext hb b3; replace vB := vB.ext hb; replace bO40_0 := BoxAt.ext hb bO40_0; replace bO40_1 := BoxAt.ext hb bO40_1; replace bO40_2 := BoxAt.ext hb bO40_2; replace bO40_3 := BoxAt.ext hb bO40_3; have hs154 := hb.size; clear hb
          refine ⟨_, rfl, ⟨bO40_0.1, bO40_1.1, bO40_2.1, bO40_3.1, b3.1, bO1_3.1, (hE.cell z0), (hE.cell z1), (hE.cell z2), (hE.cell z3)⟩, ?_⟩
          refine wT 14 (.bool false) hR (fun w _ => by kernel_rfl) (⟨bO40_0.1, bO40_1.1, bO40_2.1, bO40_3.1, b3.1, bO1_3.1, (hE.cell z0), (hE.cell z1), (hE.cell z2), (hE.cell z3)⟩) ?_
          refine wT 15 (.bool false) hR (fun w _ => by kernel_rfl) (⟨bO40_0.1, bO40_1.1, bO40_2.1, bO40_3.1, b3.1, bO1_3.1, (hE.cell z0), (hE.cell z1), (hE.cell z2), (hE.cell z3)⟩) ?_
          refine wT 16 (.bool false) hR (fun w _ => by kernel_rfl) (⟨bO40_0.1, bO40_1.1, bO40_2.1, bO40_3.1, b3.1, bO1_3.1, (hE.cell z0), (hE.cell z1), (hE.cell z2), (hE.cell z3)⟩) ?_
          refine wT 17 (.int .i64 (((i : Nat) : Int) : Int)) hR (fun w _ => by kernel_rfl) (⟨bO40_0.1, bO40_1.1, bO40_2.1, bO40_3.1, b3.1, bO1_3.1, (hE.cell z0), (hE.cell z1), (hE.cell z2), (hE.cell z3)⟩) ?_
          refine wT 18 (.bool true) hR (fun w _ => ev_dec (show _ = Result.ok (Next.value (Value.bool (decide ((((i : Nat) : Int) : Int) > (0 : Int))))) _ from by kernel_rfl) (by omega)) (⟨bO40_0.1, bO40_1.1, bO40_2.1, bO40_3.1, b3.1, bO1_3.1, (hE.cell z0), (hE.cell z1), (hE.cell z2), (hE.cell z3)⟩) ?_
          refine wT 19 (.bool true) hR (fun w _ => by kernel_rfl) (⟨bO40_0.1, bO40_1.1, bO40_2.1, bO40_3.1, b3.1, bO1_3.1, (hE.cell z0), (hE.cell z1), (hE.cell z2), (hE.cell z3)⟩) ?_
          refine wT 20 (.agg #[.int .i64 p.im, .int .i64 p.t, .bool p.cl, .slice (some ⟨b143, o144, none⟩) 24 c33]) hR (fun w hS => ex_load rfl (by kernel_rfl) (ld41 (hS.1) (hS.2.1) (hS.2.2.1) (hS.2.2.2.1))) (⟨bO40_0.1, bO40_1.1, bO40_2.1, bO40_3.1, b3.1, bO1_3.1, (hE.cell z0), (hE.cell z1), (hE.cell z2), (hE.cell z3)⟩) ?_
          refine wT 21 (.pointer (some ⟨O1, 3, none⟩)) hR (fun w _ => by kernel_rfl) (⟨bO40_0.1, bO40_1.1, bO40_2.1, bO40_3.1, b3.1, bO1_3.1, (hE.cell z0), (hE.cell z1), (hE.cell z2), (hE.cell z3)⟩) ?_
          refine wT 22 (.slice (some ⟨b29, o30, none⟩) n c) hR (fun w hS => ex_load rfl (by kernel_rfl) (ld28 (hS.2.2.2.2.2.1))) (⟨bO40_0.1, bO40_1.1, bO40_2.1, bO40_3.1, b3.1, bO1_3.1, (hE.cell z0), (hE.cell z1), (hE.cell z2), (hE.cell z3)⟩) ?_
          refine wT 23 (.int .i64 (((i : Nat) : Int) : Int)) hR (fun w _ => by kernel_rfl) (⟨bO40_0.1, bO40_1.1, bO40_2.1, bO40_3.1, b3.1, bO1_3.1, (hE.cell z0), (hE.cell z1), (hE.cell z2), (hE.cell z3)⟩) ?_
          refine wT 24 (.int .i64 (((i - 1 : Nat) : Int) : Int)) hR (fun w _ => ev_int (ev_wrap (a := ((i : Nat) : Int) - 1) (by kernel_rfl) (by omega) (by omega)) (by omega)) (⟨bO40_0.1, bO40_1.1, bO40_2.1, bO40_3.1, b3.1, bO1_3.1, (hE.cell z0), (hE.cell z1), (hE.cell z2), (hE.cell z3)⟩) ?_
          refine wT 25 (.pointer (some ⟨b29, o30 + (i - 1) * 4, none⟩)) hR (fun w _ => ex_index (p := .slice (some ⟨b29, o30, none⟩) n c) (i := .int .i64 ((i - 1 : Nat) : Int)) rfl (by kernel_rfl) (by kernel_rfl) (ix28 (k := i - 1) (by omega))) (⟨bO40_0.1, bO40_1.1, bO40_2.1, bO40_3.1, b3.1, bO1_3.1, (hE.cell z0), (hE.cell z1), (hE.cell z2), (hE.cell z3)⟩) ?_
          refine wT 26 (.agg #[.int .i64 p0.im, .int .i64 p0.t, .bool p0.cl, .slice ar0 k0 c0]) hR (fun w hS => ex_load rfl (by kernel_rfl) (ld41 (hS.2.2.2.2.2.2.1) (hS.2.2.2.2.2.2.2.1) (hS.2.2.2.2.2.2.2.2.1) (hS.2.2.2.2.2.2.2.2.2))) (⟨bO40_0.1, bO40_1.1, bO40_2.1, bO40_3.1, b3.1, bO1_3.1, (hE.cell z0), (hE.cell z1), (hE.cell z2), (hE.cell z3)⟩) ?_
          refine wS 27 hR (sn_call (f := 47) (args := #[.agg #[.int .i64 p.im, .int .i64 p.t, .bool p.cl, .slice (some ⟨b143, o144, none⟩) 24 c33], .agg #[.int .i64 p0.im, .int .i64 p0.t, .bool p0.cl, .slice ar0 k0 c0]]) (by kernel_rfl) ((rank_c _).mono ?_))
          rintro e w155 ⟨rfl, hb⟩
          replace hE := hE.trans hb; replace bO1_0 := BoxAt.ext hb bO1_0; replace bO1_1 := BoxAt.ext hb bO1_1; replace bO1_2 := BoxAt.ext hb bO1_2; replace bO1_3 := BoxAt.ext hb bO1_3; replace b3 := BoxAt.ext hb b3; replace vB := vB.ext hb; replace bO40_0 := BoxAt.ext hb bO40_0; replace bO40_1 := BoxAt.ext hb bO40_1; replace bO40_2 := BoxAt.ext hb bO40_2; replace bO40_3 := BoxAt.ext hb bO40_3; have hs156 := hb.size; clear hb
          refine ⟨_, rfl, ⟨bO40_0.1, bO40_1.1, bO40_2.1, bO40_3.1, b3.1, bO1_3.1, (hE.cell z0), (hE.cell z1), (hE.cell z2), (hE.cell z3)⟩, ?_⟩
          refine wT 28 (.bool false) hR (fun w _ => ev_ndec (show _ = Result.ok (Next.value (Value.bool (decide ((Prod.rk p.cl p.t p.im p0.cl p0.t p0.im : Int) ≤ (0 : Int))))) _ from by kernel_rfl) (Int.not_le_of_gt (Prod.rk_pos.2 h6))) (⟨bO40_0.1, bO40_1.1, bO40_2.1, bO40_3.1, b3.1, bO1_3.1, (hE.cell z0), (hE.cell z1), (hE.cell z2), (hE.cell z3)⟩) ?_
          refine wT 29 (.bool false) hR (fun w _ => by kernel_rfl) (⟨bO40_0.1, bO40_1.1, bO40_2.1, bO40_3.1, b3.1, bO1_3.1, (hE.cell z0), (hE.cell z1), (hE.cell z2), (hE.cell z3)⟩) ?_
          refine wT 30 (.bool false) hR (fun w _ => by kernel_rfl) (⟨bO40_0.1, bO40_1.1, bO40_2.1, bO40_3.1, b3.1, bO1_3.1, (hE.cell z0), (hE.cell z1), (hE.cell z2), (hE.cell z3)⟩) ?_
          refine wT 31 (.bool false) hR (fun w _ => by kernel_rfl) (⟨bO40_0.1, bO40_1.1, bO40_2.1, bO40_3.1, b3.1, bO1_3.1, (hE.cell z0), (hE.cell z1), (hE.cell z2), (hE.cell z3)⟩) ?_
          refine wT 32 (.pointer (some ⟨O1, 3, none⟩)) hR (fun w _ => by kernel_rfl) (⟨bO40_0.1, bO40_1.1, bO40_2.1, bO40_3.1, b3.1, bO1_3.1, (hE.cell z0), (hE.cell z1), (hE.cell z2), (hE.cell z3)⟩) ?_
          refine wT 33 (.slice (some ⟨b29, o30, none⟩) n c) hR (fun w hS => ex_load rfl (by kernel_rfl) (ld28 (hS.2.2.2.2.2.1))) (⟨bO40_0.1, bO40_1.1, bO40_2.1, bO40_3.1, b3.1, bO1_3.1, (hE.cell z0), (hE.cell z1), (hE.cell z2), (hE.cell z3)⟩) ?_
          refine wT 34 (.int .i64 (((i : Nat) : Int) : Int)) hR (fun w _ => by kernel_rfl) (⟨bO40_0.1, bO40_1.1, bO40_2.1, bO40_3.1, b3.1, bO1_3.1, (hE.cell z0), (hE.cell z1), (hE.cell z2), (hE.cell z3)⟩) ?_
          refine wT 35 (.slice (some ⟨b29, o30, none⟩) i c) hR (fun w _ => ex_slice (p := .slice (some ⟨b29, o30, none⟩) n c) rfl (by kernel_rfl) (by kernel_rfl) (by kernel_rfl) (by kernel_rfl) (sl28_010 (m := i) (by omega) (by omega))) (⟨bO40_0.1, bO40_1.1, bO40_2.1, bO40_3.1, b3.1, bO1_3.1, (hE.cell z0), (hE.cell z1), (hE.cell z2), (hE.cell z3)⟩) ?_
          refine wT 36 (.pointer (some ⟨O40, 0, none⟩)) hR (fun w _ => by kernel_rfl) (⟨bO40_0.1, bO40_1.1, bO40_2.1, bO40_3.1, b3.1, bO1_3.1, (hE.cell z0), (hE.cell z1), (hE.cell z2), (hE.cell z3)⟩) ?_
          refine wT 37 (.int .i64 p.im) hR (fun w hS => ex_load rfl (by kernel_rfl) (ld3 (hS.1))) (⟨bO40_0.1, bO40_1.1, bO40_2.1, bO40_3.1, b3.1, bO1_3.1, (hE.cell z0), (hE.cell z1), (hE.cell z2), (hE.cell z3)⟩) ?_
          refine wS 38 hR (sn_call (f := 34) (args := #[.int .i64 p.im]) (by kernel_rfl) ((twin_c p.im _).mono ?_))
          rintro e w160 ⟨B157, rfl, hn158, hc159, hb⟩
          replace hE := hE.trans hb; replace bO1_0 := BoxAt.ext hb bO1_0; replace bO1_1 := BoxAt.ext hb bO1_1; replace bO1_2 := BoxAt.ext hb bO1_2; replace bO1_3 := BoxAt.ext hb bO1_3; replace b3 := BoxAt.ext hb b3; replace vB := vB.ext hb; replace bO40_0 := BoxAt.ext hb bO40_0; replace bO40_1 := BoxAt.ext hb bO40_1; replace bO40_2 := BoxAt.ext hb bO40_2; replace bO40_3 := BoxAt.ext hb bO40_3; have hs161 := hb.size; clear hb
          have lt162 := World.block_lt_of_cell? _ _ hc159
          refine ⟨_, rfl, ⟨bO40_0.1, bO40_1.1, bO40_2.1, bO40_3.1, b3.1, bO1_3.1, (hE.cell z0), (hE.cell z1), (hE.cell z2), (hE.cell z3)⟩, ?_⟩
          refine wS 39 hR (sn_call (f := 33) (args := #[.slice (some ⟨b29, o30, none⟩) i c, .func (.func 58) #[] #[.pointer (some ⟨B157, 0, none⟩)]]) (by kernel_rfl) ((ContainsTwin_r (r := false) _ _ ((hP).take (by omega)) hE (hc159) (Ext.refl _) h5).mono ?_))
          rintro e w163 ⟨rfl, hb⟩
          replace hE := hE.trans hb; replace bO1_0 := BoxAt.ext hb bO1_0; replace bO1_1 := BoxAt.ext hb bO1_1; replace bO1_2 := BoxAt.ext hb bO1_2; replace bO1_3 := BoxAt.ext hb bO1_3; replace b3 := BoxAt.ext hb b3; replace vB := vB.ext hb; replace bO40_0 := BoxAt.ext hb bO40_0; replace bO40_1 := BoxAt.ext hb bO40_1; replace bO40_2 := BoxAt.ext hb bO40_2; replace bO40_3 := BoxAt.ext hb bO40_3; replace hc159 := hb.cell hc159; have hs164 := hb.size; clear hb
          refine ⟨_, rfl, ⟨bO40_0.1, bO40_1.1, bO40_2.1, bO40_3.1, b3.1, bO1_3.1, (hE.cell z0), (hE.cell z1), (hE.cell z2), (hE.cell z3)⟩, ?_⟩
          refine wT 40 (.bool false) hR (fun w _ => by kernel_rfl) (⟨bO40_0.1, bO40_1.1, bO40_2.1, bO40_3.1, b3.1, bO1_3.1, (hE.cell z0), (hE.cell z1), (hE.cell z2), (hE.cell z3)⟩) ?_
          refine wd_end hL hR hK (by kernel_rfl) ?_
          refine qw_then ?_; refine cC7 1 3 5 31 32 33 78 (fun L => ?_)
          refine cw_f (by kernel_rfl) ?_
          refine cw_skip ?_
          refine qw_then ?_; refine cw_plain ?_
          refine pU (.agg #[.slice (some ⟨BB, oB, none⟩) 24 kB]) (ex_load rfl (by kernel_rfl) (ld26 (b3.1))) ?_
          refine pT (.pointer (some ⟨O40, 3, none⟩)) ?_
          refine pU (.agg #[.slice (some ⟨b143, o144, none⟩) 24 c33]) (ex_load rfl (by kernel_rfl) (ld26 (bO40_3.1))) ?_
          refine pS (sn_call (f := 39) (args := #[.agg #[.slice (some ⟨BB, oB, none⟩) 24 kB], .agg #[.slice (some ⟨b143, o144, none⟩) 24 c33]]) (by kernel_rfl) ((lessP_v _ _ _ vB (Ext.refl _) hV145 hE).mono ?_))
          rintro e w169 ⟨B165, k166, rfl, hn167, hv168, hb⟩
          replace hE := hE.trans hb; replace bO1_0 := BoxAt.ext hb bO1_0; replace bO1_1 := BoxAt.ext hb bO1_1; replace bO1_2 := BoxAt.ext hb bO1_2; replace bO1_3 := BoxAt.ext hb bO1_3; replace b3 := BoxAt.ext hb b3; replace vB := vB.ext hb; replace bO40_0 := BoxAt.ext hb bO40_0; replace bO40_1 := BoxAt.ext hb bO40_1; replace bO40_2 := BoxAt.ext hb bO40_2; replace bO40_3 := BoxAt.ext hb bO40_3; replace hc159 := hb.cell hc159; have hs170 := hb.size; clear hb; have lt171 := hv168.lt
          refine ⟨_, rfl, ?_⟩
          refine pP (sn_set (O := O19) (j := 0) (v := .slice (some ⟨B165, 0, none⟩) 24 k166) (ex_store (p := .pointer (some ⟨O19, 0, none⟩)) (v := .agg #[.slice (some ⟨B165, 0, none⟩) 24 k166]) rfl (by kernel_rfl) (by kernel_rfl) (st26 b3.1 b3.2)) b3 ?_)
          intro X172 ho hv0 hk; replace hE := ho.ext hE (T (T hs3 (T hs7 (T hs10 hs13))) (Nat.le_of_eq hzO19))
          have q9 := fun (j : Nat) (v : Value) (h : BoxAt _ O1 j v) => ho.box (Nat.ne_of_gt (Nat.lt_of_lt_of_le lt4 (T (T hs7 (T hs10 hs13)) (Nat.le_of_eq hzO19)))) h
          replace bO1_0 := q9 _ _ bO1_0; replace bO1_1 := q9 _ _ bO1_1; replace bO1_2 := q9 _ _ bO1_2; replace bO1_3 := q9 _ _ bO1_3; clear q9; replace vB := ho.va hne.out vB
          have q9 := fun (j : Nat) (v : Value) (h : BoxAt _ O40 j v) => ho.box (Nat.ne_of_lt (Nat.lt_of_lt_of_le lt22 (T (T hs24 hs25) (Nat.le_of_eq hzO40)))) h
          replace bO40_0 := q9 _ _ bO40_0; replace bO40_1 := q9 _ _ bO40_1; replace bO40_2 := q9 _ _ bO40_2; replace bO40_3 := q9 _ _ bO40_3; clear q9; replace hc159 := ho.cell (Nat.ne_of_lt (Nat.lt_of_lt_of_le lt22 (T (T hs24 (T hs25 (T hs42 (T hs45 (T hs148 (T hs150 (T hs152 (T hs154 hs156)))))))) hn158))) hc159; replace hv168 := ho.va (Nat.ne_of_lt (Nat.lt_of_lt_of_le lt22 (T (T hs24 (T hs25 (T hs42 (T hs45 (T hs148 (T hs150 (T hs152 (T hs154 (T hs156 (T hs161 hs164)))))))))) hn167))) hv168; have hs173 : w169.heap.size ≤ X172.heap.size := Nat.le_of_eq ho.size.symm; clear ho hk b3; have b3 := hv0; clear hv0; refine pl_nil ?_
          refine qw_block ?_
          refine qw_then ?_; refine cw_plain ?_
          refine pU (.int .i64 (((i + 1 : Nat) : Int) : Int)) (ev_wrap (by kernel_rfl) (by omega) (by omega)) ?_
          refine pT (.int .i64 (((i + 1 : Nat) : Int) : Int)) ?_; refine pl_nil ?_
          refine qw_round [1, 3, 31, 32, 33] (ws' := [(1, .pointer (some ⟨O1, 0, none⟩)), (3, .pointer (some ⟨O19, 0, none⟩)), (31, .slice (some ⟨b29, o30, none⟩) n c), (32, .int .i64 (((n : Nat) : Int) : Int)), (33, .int .i64 (((i + 1 : Nat) : Int) : Int))]) (by kernel_rfl) _ ?_ ⟨(i + 1), B165, 0, k166, rfl, rfl, (T hs25 (T hs42 (T hs45 (T hs148 (T hs150 (T hs152 (T hs154 (T hs156 (T hs161 (T hs164 (T hs170 hs173))))))))))), hE, bO1_0, bO1_1, bO1_2, bO1_3, b3, (by rw [hrs]; exact hv168), by omega, (by rw [Hv, hst, hso, ← hrs, ← htk]; rfl), Lib.hid (Nat.ne_of_lt (Nat.lt_of_lt_of_le lt22 (T (T hs24 (T hs25 (T hs42 (T hs45 (T hs148 (T hs150 (T hs152 (T hs154 (T hs156 (T hs161 hs164)))))))))) hn167)))⟩
          omega
        ·
         obtain ⟨b174, o175, rfl, rfl, hV176⟩ := va_of hA39 (Prod.okP_t.1 h1).2.2
         have lt177 := hV176.lt
         obtain ⟨p0, ar0, k0, c0, hx0, z0, z1, z2, z3⟩ := PcsAt.get hP (i := i - 1) (by omega)
         obtain rfl : p0 = p9 := Option.some.inj (hx0.symm.trans hp9)
         have hso : Prod.stepOk (Prod.rest ar (ps.take i)) (ps.take i) p = false := Prod.step_worse hgl h6
         refine cw_draw [(some 38, [5], []), (some 39, [38], [0]), (some 40, [39], [1]), (some 41, [40], [2, 1]), (some 42, [5, 41], [3]), (some 43, [42, 41], [4, 3]), (some 44, [43, 41], [5, 3, 3]), (some 45, [44, 41], [6, 3]), (some 46, [41, 45], [3, 7]), (some 47, [46], [8, 6]), (some 48, [3, 47], [9]), (some 49, [5, 47], [9]), (some 50, [49, 47], [11, 9]), (some 51, [48, 50, 47], [10, 12, 9, 9]), (some 52, [51, 47], [13, 9]), (some 53, [47, 52], [9, 14]), (some 54, [53], [15, 13]), (some 55, [4, 54], [16]), (some 56, [55, 54], [17, 16]), (some 57, [56, 54], [18, 16, 16]), (some 58, [5, 57], [19]), (some 59, [1, 57], [19]), (some 60, [59, 57], [21, 19]), (some 61, [4, 57], [19]), (some 62, [61, 57], [23, 19]), (some 63, [60, 62, 57], [22, 24, 19]), (some 64, [63, 57], [25, 19]), (some 65, [58, 64, 57], [20, 26, 19, 19]), (some 66, [65, 57], [27, 19]), (some 67, [57, 66, 54], [19, 28, 16]), (some 68, [54, 67], [16, 29]), (some 69, [68], [30, 27]), (some 70, [1, 69], [31]), (some 71, [70, 69], [32, 31]), (some 72, [4, 69], [31]), (some 73, [71, 72, 69], [33, 34, 31]), (some 74, [5, 69], [31]), (some 75, [74, 69], [36, 31]), (some 76, [75, 69], [37, 31, 31]), (some 77, [73, 76, 69], [35, 38, 38, 31]), (some 78, [69, 77], [31, 39])] (fun w' => w'.cell? ⟨O40, 0, none⟩ = some (.int .i64 p.im) ∧ w'.cell? ⟨O40, 1, none⟩ = some (.int .i64 p.t) ∧ w'.cell? ⟨O40, 2, none⟩ = some (.bool p.cl) ∧ w'.cell? ⟨O40, 3, none⟩ = some (.slice (some ⟨b174, o175, none⟩) 24 c33) ∧ w'.cell? ⟨O19, 0, none⟩ = some (.slice (some ⟨BB, oB, none⟩) 24 kB) ∧ w'.cell? ⟨O1, 3, none⟩ = some (.slice (some ⟨b29, o30, none⟩) n c) ∧ w'.cell? ⟨b29, o30 + (i - 1) * 4, none⟩ = some (.int .i64 p0.im) ∧ w'.cell? ⟨b29, o30 + (i - 1) * 4 + 1, none⟩ = some (.int .i64 p0.t) ∧ w'.cell? ⟨b29, o30 + (i - 1) * 4 + 2, none⟩ = some (.bool p0.cl) ∧ w'.cell? ⟨b29, o30 + (i - 1) * 4 + 3, none⟩ = some (.slice ar0 k0 c0)) (by kernel_rfl) (by kernel_rfl) (by kernel_rfl) (by kernel_rfl) ((calm_then (calm_then (calm_block (calm_then (calm_then (calm_block (calm_then calm_body)))))))) (⟨bO40_0.1, bO40_1.1, bO40_2.1, bO40_3.1, b3.1, bO1_3.1, (hE.cell z0), (hE.cell z1), (hE.cell z2), (hE.cell z3)⟩) (fun ops Q X178 hb hL hR hK => ?_)
         replace hE := hE.trans hb; replace bO1_0 := BoxAt.ext hb bO1_0; replace bO1_1 := BoxAt.ext hb bO1_1; replace bO1_2 := BoxAt.ext hb bO1_2; replace bO1_3 := BoxAt.ext hb bO1_3; replace b3 := BoxAt.ext hb b3; replace vB := vB.ext hb; replace bO40_0 := BoxAt.ext hb bO40_0; replace bO40_1 := BoxAt.ext hb bO40_1; replace bO40_2 := BoxAt.ext hb bO40_2; replace bO40_3 := BoxAt.ext hb bO40_3; have hs179 := hb.size; clear hb
         refine wT 0 (.agg #[.int .i64 p.im, .int .i64 p.t, .bool p.cl, .slice (some ⟨b174, o175, none⟩) 24 c33]) hR (fun w hS => ex_load rfl (by kernel_rfl) (ld41 (hS.1) (hS.2.1) (hS.2.2.1) (hS.2.2.2.1))) (⟨bO40_0.1, bO40_1.1, bO40_2.1, bO40_3.1, b3.1, bO1_3.1, (hE.cell z0), (hE.cell z1), (hE.cell z2), (hE.cell z3)⟩) ?_
         refine wS 1 hR (sn_call (f := 32) (args := #[.agg #[.int .i64 p.im, .int .i64 p.t, .bool p.cl, .slice (some ⟨b174, o175, none⟩) 24 c33]]) (by kernel_rfl) ((right_r (x := p) (r := true) _ (hV176.aa) hE h1).mono ?_))
         rintro e w180 ⟨rfl, hb⟩
         replace hE := hE.trans hb; replace bO1_0 := BoxAt.ext hb bO1_0; replace bO1_1 := BoxAt.ext hb bO1_1; replace bO1_2 := BoxAt.ext hb bO1_2; replace bO1_3 := BoxAt.ext hb bO1_3; replace b3 := BoxAt.ext hb b3; replace vB := vB.ext hb; replace bO40_0 := BoxAt.ext hb bO40_0; replace bO40_1 := BoxAt.ext hb bO40_1; replace bO40_2 := BoxAt.ext hb bO40_2; replace bO40_3 := BoxAt.ext hb bO40_3; have hs181 := hb.size; clear hb
         refine ⟨_, rfl, ⟨bO40_0.1, bO40_1.1, bO40_2.1, bO40_3.1, b3.1, bO1_3.1, (hE.cell z0), (hE.cell z1), (hE.cell z2), (hE.cell z3)⟩, ?_⟩
         refine wT 2 (.bool false) hR (fun w _ => by kernel_rfl) (⟨bO40_0.1, bO40_1.1, bO40_2.1, bO40_3.1, b3.1, bO1_3.1, (hE.cell z0), (hE.cell z1), (hE.cell z2), (hE.cell z3)⟩) ?_
         refine wT 3 (.bool false) hR (fun w _ => by kernel_rfl) (⟨bO40_0.1, bO40_1.1, bO40_2.1, bO40_3.1, b3.1, bO1_3.1, (hE.cell z0), (hE.cell z1), (hE.cell z2), (hE.cell z3)⟩) ?_
         refine wT 4 (.pointer (some ⟨O40, 3, none⟩)) hR (fun w _ => by kernel_rfl) (⟨bO40_0.1, bO40_1.1, bO40_2.1, bO40_3.1, b3.1, bO1_3.1, (hE.cell z0), (hE.cell z1), (hE.cell z2), (hE.cell z3)⟩) ?_
         refine wT 5 (.agg #[.slice (some ⟨b174, o175, none⟩) 24 c33]) hR (fun w hS => ex_load rfl (by kernel_rfl) (ld26 (hS.2.2.2.1))) (⟨bO40_0.1, bO40_1.1, bO40_2.1, bO40_3.1, b3.1, bO1_3.1, (hE.cell z0), (hE.cell z1), (hE.cell z2), (hE.cell z3)⟩) ?_
         refine wS 6 hR (sn_call (f := 18) (args := #[.agg #[.slice (some ⟨b174, o175, none⟩) 24 c33]]) (by kernel_rfl) ((Count_v _ _ hV176 hE (hT.ext hE)).mono ?_))
         rintro e w182 ⟨rfl, hb⟩
         replace hE := hE.trans hb; replace bO1_0 := BoxAt.ext hb bO1_0; replace bO1_1 := BoxAt.ext hb bO1_1; replace bO1_2 := BoxAt.ext hb bO1_2; replace bO1_3 := BoxAt.ext hb bO1_3; replace b3 := BoxAt.ext hb b3; replace vB := vB.ext hb; replace bO40_0 := BoxAt.ext hb bO40_0; replace bO40_1 := BoxAt.ext hb bO40_1; replace bO40_2 := BoxAt.ext hb bO40_2; replace bO40_3 := BoxAt.ext hb bO40_3; have hs183 := hb.size; clear hb
         refine ⟨_, rfl, ⟨bO40_0.1, bO40_1.1, bO40_2.1, bO40_3.1, b3.1, bO1_3.1, (hE.cell z0), (hE.cell z1), (hE.cell z2), (hE.cell z3)⟩, ?_⟩
         refine wT 7 (.bool false) hR (fun w _ => ev_neq (show _ = Result.ok (Next.value (Value.bool (((((Globe.cellsTo p.rw 24).length : Nat) : Int) : Int) == (0 : Int)))) _ from by kernel_rfl) (Prod.noC_ne h2)) (⟨bO40_0.1, bO40_1.1, bO40_2.1, bO40_3.1, b3.1, bO1_3.1, (hE.cell z0), (hE.cell z1), (hE.cell z2), (hE.cell z3)⟩) ?_
         refine wT 8 (.bool false) hR (fun w _ => by kernel_rfl) (⟨bO40_0.1, bO40_1.1, bO40_2.1, bO40_3.1, b3.1, bO1_3.1, (hE.cell z0), (hE.cell z1), (hE.cell z2), (hE.cell z3)⟩) ?_
         refine wT 9 (.bool false) hR (fun w _ => by kernel_rfl) (⟨bO40_0.1, bO40_1.1, bO40_2.1, bO40_3.1, b3.1, bO1_3.1, (hE.cell z0), (hE.cell z1), (hE.cell z2), (hE.cell z3)⟩) ?_
         refine wT 10 (.agg #[.slice (some ⟨BB, oB, none⟩) 24 kB]) hR (fun w hS => ex_load rfl (by kernel_rfl) (ld26 (hS.2.2.2.2.1))) (⟨bO40_0.1, bO40_1.1, bO40_2.1, bO40_3.1, b3.1, bO1_3.1, (hE.cell z0), (hE.cell z1), (hE.cell z2), (hE.cell z3)⟩) ?_
         refine wT 11 (.pointer (some ⟨O40, 3, none⟩)) hR (fun w _ => by kernel_rfl) (⟨bO40_0.1, bO40_1.1, bO40_2.1, bO40_3.1, b3.1, bO1_3.1, (hE.cell z0), (hE.cell z1), (hE.cell z2), (hE.cell z3)⟩) ?_
         refine wT 12 (.agg #[.slice (some ⟨b174, o175, none⟩) 24 c33]) hR (fun w hS => ex_load rfl (by kernel_rfl) (ld26 (hS.2.2.2.1))) (⟨bO40_0.1, bO40_1.1, bO40_2.1, bO40_3.1, b3.1, bO1_3.1, (hE.cell z0), (hE.cell z1), (hE.cell z2), (hE.cell z3)⟩) ?_
         refine wS 13 hR (sn_call (f := 23) (args := #[.agg #[.slice (some ⟨BB, oB, none⟩) 24 kB], .agg #[.slice (some ⟨b174, o175, none⟩) 24 c33]]) (by kernel_rfl) ((Contains_q (r := true) _ _ _ (vB.aa) (Ext.refl _) (hV176.aa) hE h3).mono ?_))
         rintro e w184 ⟨rfl, hb⟩
         replace hE := hE.trans hb; replace bO1_0 := BoxAt.ext hb bO1_0; replace bO1_1 := BoxAt.ext hb bO1_1; replace bO1_2 := BoxAt.ext hb bO1_2; replace bO1_3 := BoxAt.ext hb bO1_3; replace b3 := BoxAt.ext hb b3; replace vB := vB.ext hb; replace bO40_0 := BoxAt.ext hb bO40_0; replace bO40_1 := BoxAt.ext hb bO40_1; replace bO40_2 := BoxAt.ext hb bO40_2; replace bO40_3 := BoxAt.ext hb bO40_3; have hs185 := hb.size; clear hb
         refine ⟨_, rfl, ⟨bO40_0.1, bO40_1.1, bO40_2.1, bO40_3.1, b3.1, bO1_3.1, (hE.cell z0), (hE.cell z1), (hE.cell z2), (hE.cell z3)⟩, ?_⟩
         refine wT 14 (.bool false) hR (fun w _ => by kernel_rfl) (⟨bO40_0.1, bO40_1.1, bO40_2.1, bO40_3.1, b3.1, bO1_3.1, (hE.cell z0), (hE.cell z1), (hE.cell z2), (hE.cell z3)⟩) ?_
         refine wT 15 (.bool false) hR (fun w _ => by kernel_rfl) (⟨bO40_0.1, bO40_1.1, bO40_2.1, bO40_3.1, b3.1, bO1_3.1, (hE.cell z0), (hE.cell z1), (hE.cell z2), (hE.cell z3)⟩) ?_
         refine wT 16 (.bool false) hR (fun w _ => by kernel_rfl) (⟨bO40_0.1, bO40_1.1, bO40_2.1, bO40_3.1, b3.1, bO1_3.1, (hE.cell z0), (hE.cell z1), (hE.cell z2), (hE.cell z3)⟩) ?_
         refine wT 17 (.int .i64 (((i : Nat) : Int) : Int)) hR (fun w _ => by kernel_rfl) (⟨bO40_0.1, bO40_1.1, bO40_2.1, bO40_3.1, b3.1, bO1_3.1, (hE.cell z0), (hE.cell z1), (hE.cell z2), (hE.cell z3)⟩) ?_
         refine wT 18 (.bool true) hR (fun w _ => ev_dec (show _ = Result.ok (Next.value (Value.bool (decide ((((i : Nat) : Int) : Int) > (0 : Int))))) _ from by kernel_rfl) (by omega)) (⟨bO40_0.1, bO40_1.1, bO40_2.1, bO40_3.1, b3.1, bO1_3.1, (hE.cell z0), (hE.cell z1), (hE.cell z2), (hE.cell z3)⟩) ?_
         refine wT 19 (.bool true) hR (fun w _ => by kernel_rfl) (⟨bO40_0.1, bO40_1.1, bO40_2.1, bO40_3.1, b3.1, bO1_3.1, (hE.cell z0), (hE.cell z1), (hE.cell z2), (hE.cell z3)⟩) ?_
         refine wT 20 (.agg #[.int .i64 p.im, .int .i64 p.t, .bool p.cl, .slice (some ⟨b174, o175, none⟩) 24 c33]) hR (fun w hS => ex_load rfl (by kernel_rfl) (ld41 (hS.1) (hS.2.1) (hS.2.2.1) (hS.2.2.2.1))) (⟨bO40_0.1, bO40_1.1, bO40_2.1, bO40_3.1, b3.1, bO1_3.1, (hE.cell z0), (hE.cell z1), (hE.cell z2), (hE.cell z3)⟩) ?_
         refine wT 21 (.pointer (some ⟨O1, 3, none⟩)) hR (fun w _ => by kernel_rfl) (⟨bO40_0.1, bO40_1.1, bO40_2.1, bO40_3.1, b3.1, bO1_3.1, (hE.cell z0), (hE.cell z1), (hE.cell z2), (hE.cell z3)⟩) ?_
         refine wT 22 (.slice (some ⟨b29, o30, none⟩) n c) hR (fun w hS => ex_load rfl (by kernel_rfl) (ld28 (hS.2.2.2.2.2.1))) (⟨bO40_0.1, bO40_1.1, bO40_2.1, bO40_3.1, b3.1, bO1_3.1, (hE.cell z0), (hE.cell z1), (hE.cell z2), (hE.cell z3)⟩) ?_
         refine wT 23 (.int .i64 (((i : Nat) : Int) : Int)) hR (fun w _ => by kernel_rfl) (⟨bO40_0.1, bO40_1.1, bO40_2.1, bO40_3.1, b3.1, bO1_3.1, (hE.cell z0), (hE.cell z1), (hE.cell z2), (hE.cell z3)⟩) ?_
         refine wT 24 (.int .i64 (((i - 1 : Nat) : Int) : Int)) hR (fun w _ => ev_int (ev_wrap (a := ((i : Nat) : Int) - 1) (by kernel_rfl) (by omega) (by omega)) (by omega)) (⟨bO40_0.1, bO40_1.1, bO40_2.1, bO40_3.1, b3.1, bO1_3.1, (hE.cell z0), (hE.cell z1), (hE.cell z2), (hE.cell z3)⟩) ?_
         refine wT 25 (.pointer (some ⟨b29, o30 + (i - 1) * 4, none⟩)) hR (fun w _ => ex_index (p := .slice (some ⟨b29, o30, none⟩) n c) (i := .int .i64 ((i - 1 : Nat) : Int)) rfl (by kernel_rfl) (by kernel_rfl) (ix28 (k := i - 1) (by omega))) (⟨bO40_0.1, bO40_1.1, bO40_2.1, bO40_3.1, b3.1, bO1_3.1, (hE.cell z0), (hE.cell z1), (hE.cell z2), (hE.cell z3)⟩) ?_
         refine wT 26 (.agg #[.int .i64 p0.im, .int .i64 p0.t, .bool p0.cl, .slice ar0 k0 c0]) hR (fun w hS => ex_load rfl (by kernel_rfl) (ld41 (hS.2.2.2.2.2.2.1) (hS.2.2.2.2.2.2.2.1) (hS.2.2.2.2.2.2.2.2.1) (hS.2.2.2.2.2.2.2.2.2))) (⟨bO40_0.1, bO40_1.1, bO40_2.1, bO40_3.1, b3.1, bO1_3.1, (hE.cell z0), (hE.cell z1), (hE.cell z2), (hE.cell z3)⟩) ?_
         refine wS 27 hR (sn_call (f := 47) (args := #[.agg #[.int .i64 p.im, .int .i64 p.t, .bool p.cl, .slice (some ⟨b174, o175, none⟩) 24 c33], .agg #[.int .i64 p0.im, .int .i64 p0.t, .bool p0.cl, .slice ar0 k0 c0]]) (by kernel_rfl) ((rank_c _).mono ?_))
         rintro e w186 ⟨rfl, hb⟩
         replace hE := hE.trans hb; replace bO1_0 := BoxAt.ext hb bO1_0; replace bO1_1 := BoxAt.ext hb bO1_1; replace bO1_2 := BoxAt.ext hb bO1_2; replace bO1_3 := BoxAt.ext hb bO1_3; replace b3 := BoxAt.ext hb b3; replace vB := vB.ext hb; replace bO40_0 := BoxAt.ext hb bO40_0; replace bO40_1 := BoxAt.ext hb bO40_1; replace bO40_2 := BoxAt.ext hb bO40_2; replace bO40_3 := BoxAt.ext hb bO40_3; have hs187 := hb.size; clear hb
         refine ⟨_, rfl, ⟨bO40_0.1, bO40_1.1, bO40_2.1, bO40_3.1, b3.1, bO1_3.1, (hE.cell z0), (hE.cell z1), (hE.cell z2), (hE.cell z3)⟩, ?_⟩
         refine wT 28 (.bool true) hR (fun w _ => ev_dec (show _ = Result.ok (Next.value (Value.bool (decide ((Prod.rk p.cl p.t p.im p0.cl p0.t p0.im : Int) ≤ (0 : Int))))) _ from by kernel_rfl) (Int.not_lt.1 (fun q => by have h7 : Prod.better p p0 = true := Prod.rk_pos.1 q; rw [h7] at h6; cases h6))) (⟨bO40_0.1, bO40_1.1, bO40_2.1, bO40_3.1, b3.1, bO1_3.1, (hE.cell z0), (hE.cell z1), (hE.cell z2), (hE.cell z3)⟩) ?_
         refine wT 29 (.bool true) hR (fun w _ => by kernel_rfl) (⟨bO40_0.1, bO40_1.1, bO40_2.1, bO40_3.1, b3.1, bO1_3.1, (hE.cell z0), (hE.cell z1), (hE.cell z2), (hE.cell z3)⟩) ?_
         refine wT 30 (.bool true) hR (fun w _ => by kernel_rfl) (⟨bO40_0.1, bO40_1.1, bO40_2.1, bO40_3.1, b3.1, bO1_3.1, (hE.cell z0), (hE.cell z1), (hE.cell z2), (hE.cell z3)⟩) ?_
         refine wT 31 (.bool true) hR (fun w _ => by kernel_rfl) (⟨bO40_0.1, bO40_1.1, bO40_2.1, bO40_3.1, b3.1, bO1_3.1, (hE.cell z0), (hE.cell z1), (hE.cell z2), (hE.cell z3)⟩) ?_
         refine wd_skip 32 hR rfl (by kernel_rfl) rfl (by kernel_rfl) (⟨bO40_0.1, bO40_1.1, bO40_2.1, bO40_3.1, b3.1, bO1_3.1, (hE.cell z0), (hE.cell z1), (hE.cell z2), (hE.cell z3)⟩) ?_
         refine wd_skip 33 hR rfl (by kernel_rfl) rfl (by kernel_rfl) (⟨bO40_0.1, bO40_1.1, bO40_2.1, bO40_3.1, b3.1, bO1_3.1, (hE.cell z0), (hE.cell z1), (hE.cell z2), (hE.cell z3)⟩) ?_
         refine wd_skip 34 hR rfl (by kernel_rfl) rfl (by kernel_rfl) (⟨bO40_0.1, bO40_1.1, bO40_2.1, bO40_3.1, b3.1, bO1_3.1, (hE.cell z0), (hE.cell z1), (hE.cell z2), (hE.cell z3)⟩) ?_
         refine wd_skip 35 hR rfl (by kernel_rfl) rfl (by kernel_rfl) (⟨bO40_0.1, bO40_1.1, bO40_2.1, bO40_3.1, b3.1, bO1_3.1, (hE.cell z0), (hE.cell z1), (hE.cell z2), (hE.cell z3)⟩) ?_
         refine wd_skip 36 hR rfl (by kernel_rfl) rfl (by kernel_rfl) (⟨bO40_0.1, bO40_1.1, bO40_2.1, bO40_3.1, b3.1, bO1_3.1, (hE.cell z0), (hE.cell z1), (hE.cell z2), (hE.cell z3)⟩) ?_
         refine wd_skip 37 hR rfl (by kernel_rfl) rfl (by kernel_rfl) (⟨bO40_0.1, bO40_1.1, bO40_2.1, bO40_3.1, b3.1, bO1_3.1, (hE.cell z0), (hE.cell z1), (hE.cell z2), (hE.cell z3)⟩) ?_
         refine wd_skip 38 hR rfl (by kernel_rfl) rfl (by kernel_rfl) (⟨bO40_0.1, bO40_1.1, bO40_2.1, bO40_3.1, b3.1, bO1_3.1, (hE.cell z0), (hE.cell z1), (hE.cell z2), (hE.cell z3)⟩) ?_
         refine wd_skip 39 hR rfl (by kernel_rfl) rfl (by kernel_rfl) (⟨bO40_0.1, bO40_1.1, bO40_2.1, bO40_3.1, b3.1, bO1_3.1, (hE.cell z0), (hE.cell z1), (hE.cell z2), (hE.cell z3)⟩) ?_
         refine wT 40 (.bool true) hR (fun w _ => by kernel_rfl) (⟨bO40_0.1, bO40_1.1, bO40_2.1, bO40_3.1, b3.1, bO1_3.1, (hE.cell z0), (hE.cell z1), (hE.cell z2), (hE.cell z3)⟩) ?_
         refine wd_end hL hR hK (by kernel_rfl) ?_
         refine qw_then ?_; refine cC7 1 3 5 31 32 33 78 (fun L => ?_)
         refine cw_t (by kernel_rfl) ?_
         refine cw_seq ?_; refine cw_plain ?_; refine pT (.bool false) ?_; refine pl_nil ?_; refine qw_then ?_
         refine cw_ret ?_
         refine qw_then_ret ?_
         refine qw_block_ret ?_
         refine qw_then_ret ?_
         refine qw_then_ret ?_
         refine qw_block_ret ?_
         refine qw_then_ret ?_
         refine qw_ret [.bool false] rfl ⟨(by kernel_rfl), trivial⟩ ?_
         exact ⟨congrArg (fun b => Ending.returned (Value.bool b)) (show Prod.validP id ver ar ps = false by unfold Prod.validP; rw [Hv, hst, hso]; simp).symm, hE⟩
     ·
      have hin : i = n := by omega
      refine cw_seq ?_; refine cw_plain ?_
      refine pU (.bool false) (ev_ndec (show _ = Result.ok (Next.value (Value.bool (decide ((((i : Nat) : Int) : Int) < (((n : Nat) : Int) : Int))))) _ from by kernel_rfl) (by omega)) ?_
      refine pl_nil ?_; refine qw_then ?_; refine cw_seq ?_
      refine cw_f (by kernel_rfl) ?_
      refine cw_exit ?_
      refine qw_then_exit ?_
      refine qw_then_exit ?_
      refine qw_block_out ?_
      refine qw_then ?_; refine cw_seq ?_; refine cw_plain ?_; refine pT (.bool true) ?_; refine pl_nil ?_; refine qw_then ?_
      refine cw_ret ?_
      refine qw_ret [.bool true] rfl ⟨(by kernel_rfl), trivial⟩ ?_
      exact ⟨congrArg (fun b => Ending.returned (Value.bool b)) (show Prod.validP id ver ar ps = true by unfold Prod.validP; rw [hh, Hv, hin, List.drop_of_length_le (Nat.le_of_eq hln)]; rfl).symm, hE⟩
   ·
    refine pS (sn_call (f := 31) (args := #[.agg #[.slice a1 n1 c1]]) (by kernel_rfl) ((Valid_q (r := false) _ _ (hA) hE hb11).mono ?_))
    rintro e w188 ⟨rfl, hb⟩
    replace hE := hE.trans hb; replace bO1_0 := BoxAt.ext hb bO1_0; replace bO1_1 := BoxAt.ext hb bO1_1; replace bO1_2 := BoxAt.ext hb bO1_2; replace bO1_3 := BoxAt.ext hb bO1_3; have hs189 := hb.size; clear hb
    refine ⟨_, rfl, ?_⟩
    refine pT (.bool true) ?_; refine pT (.bool true) ?_; refine pT (.bool true) ?_; refine pK ?_; refine pK ?_; refine pK ?_; refine pK ?_; refine pT (.bool true) ?_; refine pl_nil ?_; refine qw_then ?_; refine cC2 1 27 (fun L => ?_)
    refine cw_t (by kernel_rfl) ?_
    refine cw_seq ?_; refine cw_plain ?_; refine pT (.bool false) ?_; refine pl_nil ?_; refine qw_then ?_
    refine cw_ret ?_
    refine qw_then_ret ?_
    refine qw_ret [.bool false] rfl ⟨(by kernel_rfl), trivial⟩ ?_
    exact ⟨congrArg (fun b => Ending.returned (Value.bool b)) (show Prod.validP id ver ar ps = false by simp [Prod.validP, Prod.headOk, hln, hb5, hb8, hb11] <;> (intro hq; omega)).symm, hE⟩
  ·
   refine pS (sn_call (f := 53) (args := #[.int .i64 ver, .int .i64 1, .int .i64 100]) (by kernel_rfl) ((in_r (r := false) ver 1 100 _ (hb8)).mono ?_))
   rintro e w190 ⟨rfl, hb⟩
   replace hE := hE.trans hb; replace bO1_0 := BoxAt.ext hb bO1_0; replace bO1_1 := BoxAt.ext hb bO1_1; replace bO1_2 := BoxAt.ext hb bO1_2; replace bO1_3 := BoxAt.ext hb bO1_3; have hs191 := hb.size; clear hb
   refine ⟨_, rfl, ?_⟩
   refine pT (.bool true) ?_; refine pT (.bool true) ?_; refine pT (.bool true) ?_; refine pK ?_; refine pK ?_; refine pK ?_; refine pK ?_; refine pT (.bool true) ?_; refine pT (.bool true) ?_; refine pK ?_; refine pK ?_; refine pK ?_; refine pK ?_; refine pT (.bool true) ?_; refine pl_nil ?_; refine qw_then ?_; refine cC2 1 27 (fun L => ?_)
   refine cw_t (by kernel_rfl) ?_
   refine cw_seq ?_; refine cw_plain ?_; refine pT (.bool false) ?_; refine pl_nil ?_; refine qw_then ?_
   refine cw_ret ?_
   refine qw_then_ret ?_
   refine qw_ret [.bool false] rfl ⟨(by kernel_rfl), trivial⟩ ?_
   exact ⟨congrArg (fun b => Ending.returned (Value.bool b)) (show Prod.validP id ver ar ps = false by simp [Prod.validP, Prod.headOk, hln, hb5, hb8] <;> (intro hq; omega)).symm, hE⟩
 ·
  refine pS (sn_call (f := 53) (args := #[.int .i64 id, .int .i64 0, .int .i64 63]) (by kernel_rfl) ((in_r (r := false) id 0 63 _ (hb5)).mono ?_))
  rintro e w192 ⟨rfl, hb⟩
  replace hE := hE.trans hb; replace bO1_0 := BoxAt.ext hb bO1_0; replace bO1_1 := BoxAt.ext hb bO1_1; replace bO1_2 := BoxAt.ext hb bO1_2; replace bO1_3 := BoxAt.ext hb bO1_3; have hs193 := hb.size; clear hb
  refine ⟨_, rfl, ?_⟩
  refine pT (.bool true) ?_; refine pT (.bool true) ?_; refine pK ?_; refine pK ?_; refine pK ?_; refine pK ?_; refine pT (.bool true) ?_; refine pT (.bool true) ?_; refine pK ?_; refine pK ?_; refine pK ?_; refine pK ?_; refine pT (.bool true) ?_; refine pT (.bool true) ?_; refine pK ?_; refine pK ?_; refine pK ?_; refine pK ?_; refine pT (.bool true) ?_; refine pl_nil ?_; refine qw_then ?_; refine cC2 1 27 (fun L => ?_)
  refine cw_t (by kernel_rfl) ?_
  refine cw_seq ?_; refine cw_plain ?_; refine pT (.bool false) ?_; refine pl_nil ?_; refine qw_then ?_
  refine cw_ret ?_
  refine qw_then_ret ?_
  refine qw_ret [.bool false] rfl ⟨(by kernel_rfl), trivial⟩ ?_
  exact ⟨congrArg (fun b => Ending.returned (Value.bool b)) (show Prod.validP id ver ar ps = false by simp [Prod.validP, Prod.headOk, hln, hb5] <;> (intro hq; omega)).symm, hE⟩
theorem pValid_r {w1 w2 : World} {id ver : Int} {ar : List Int} {ps : List Prod.Pc} {a1 a : Option Addr} {n1 n : Nat} (c1 : Nat) {c : Nat} {r : Bool} (w : World) (hnc : n ≤ c) (hA : AA w1 a1 ar n1 (Globe.validL ar)) (e1 : Ext w1 w) (hP : PcsAt w2 a n ps) (e2 : Ext w2 w) (hT : Tab w) (hr : Prod.validP id ver ar ps = r) : Calls Tryd.prog 28 #[.agg #[.int .i64 id, .int .i64 ver, .slice a1 n1 c1, .slice a n c]] w fun e w' => e = .returned (.bool r) ∧ Ext w w' := hr ▸ pValid_c c1 w hnc hA e1 hP e2 hT

end Go.Proofs.YtajdohcgjgknmaaDoor

/- Contract of slices.Clone, at 24 ints. -/
namespace Go.Proofs.YtajdohcgjgknmaaDoor
open Go.RowKit

/-- What a slice of its own, of 24 ints, owns: rows. -/
theorem rows_of_own {w : World} {base : Nat} {v : Value} {L : List Int} (hL : L.length = 24) (h : w.ownsRow base 3 1 v 24 (intVals L)) : ∃ g k, v = .slice (some ⟨g, 0, none⟩) 24 k ∧ base ≤ g ∧ RowsAt w g L := by
  rcases h.2 with ⟨_, h0⟩ | ⟨g, cap, cur, rfl, hb, _, _⟩
  · omega
  · refine ⟨g, cap, rfl, hb, hL, fun i hi => ?_, fun i hi => h.frozenAt i⟩
    rw [h.cellAt i (by omega)]
    simp [intVals, Globe.nth, show i < L.length by omega]

set_option maxHeartbeats 1000000 in
theorem Clone_v {w0 : World} {b o : Nat} (c : Nat) {l : List Int} (w : World) (h : VA w0 b o l) (hE : Ext w0 w) :
  Calls Tryd.prog 36 #[.slice (some ⟨b, o, none⟩) 24 c] w fun e w' => ∃ B k, e = .returned (.slice (some ⟨B, 0, none⟩) 24 k) ∧ w.heap.size ≤ B ∧ RowsAt w' B l ∧ Ext w w' := by
 replace h := h.ext hE; clear hE
 obtain ⟨i0, hi, hz0, hz1, hz2⟩ := info_parts (P := Tryd.prog) (e := 3) (z := .int .i64 0) (size := 1) (bytes := 8) (by kernel_rfl)
 have hn : ∀ w, (binOp .eql 24 (.slice (some ⟨b, o, none⟩) 24 c) (.slice none 0 0)).run Tryd.prog w = .ok (.bool false) w := fun _ => by kernel_rfl
 have hx : ∀ j u, (intVals l)[j]? = some u → w.cell? ((⟨b, o, none⟩ : Addr).add j) = some u := fun j u hj => by
  have hl : j < l.length := by rw [← List.length_map (f := Value.int .i64)]; exact (List.getElem?_eq_some_iff.1 hj).1
  have e := intVals_at hl
  rw [List.getElem?_toArray, hj] at e
  cases e
  rw [Addr.add_mid]; exact h.1 j (by rw [← h.len]; exact hl)
 have Hx := Lib.hid hx; clear hx
 have hl24 := h.len
 have Hl := Lib.hid hl24; clear hl24
 go_enter Tryd.func36, Tryd.ntmps36
 go_wp2_with (at_builtin; refine wpList_append_own _ rfl _ _ 24 rfl w.heap.size 3 i0 (.int .i64 0) 1 8 Tryd.underlying24 hi hz0 hz1 hz2 rfl (by decide) _ 0 [] rfl (World.ownsRow_made w #[] 0 (Nat.le_refl _) (by unfold maxLen; omega) rfl) ⟨b, o, none⟩ 24 c (intVals l) rfl (by simp [intVals, Hl.out]) (fun j u hj => Ext.cell (by (repeat' (first | (with_reducible assumption) | (with_reducible exact Ext.refl _) | (with_reducible refine Ext.alloc ?_ _) | (with_reducible refine Ext.drew ?_) | (with_reducible refine Ext.drewN ?_ _) | (with_reducible refine Ext.setCell ?_ ?_ _) | (with_reducible refine Ext.trans ?_ (by assumption)) | go_size))) (Hx.out j u hj)) (by simp [intVals, Value.oneCell']) (by unfold maxLen; omega) (by omega) (by simp) ?_; intro v' w3 hown' hg3 hnil3; go_frame)
 have hE : Ext w w3 := ((Below.refl _ w).alloc (Nat.le_refl _) _).grown hg3 (by simp) (fun j e => by simp [Act.eval, Value.ownBlock] at e; omega)
 obtain ⟨g, k, rfl, hg, hr⟩ := rows_of_own Hl.out (by simpa using hown')
 go_ret
 exact ⟨g, k, rfl, hg, hr, hE⟩

end Go.Proofs.YtajdohcgjgknmaaDoor
