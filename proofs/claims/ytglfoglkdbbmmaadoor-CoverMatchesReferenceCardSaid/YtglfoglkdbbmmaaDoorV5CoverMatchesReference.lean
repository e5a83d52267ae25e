/- Part 5 of what the proof of CoverMatchesReference stands on. -/
import Derived.Test.YtglfoglkdbbmmaaDoorV4CoverMatchesReference
/- Contracts of the reference of package cover: Uncovered. -/
namespace Go.Proofs.YtglfoglkdbbmmaaDoor
open Go.RowKit Go.Shelf

def UncP (w : World) (L1 L2 : List Int) (e : Ending) (w' : World) : Prop :=
  ∃ B1 o1 k1 B2 o2 k2 : Nat, e = .returned (.tuple #[.agg #[.slice (some ⟨B1, o1, none⟩) 24 k1], .agg #[.slice (some ⟨B2, o2, none⟩) 24 k2], .int .i64 0]) ∧ VA w' B1 o1 L1 ∧ VA w' B2 o2 L2 ∧ Ext w w'
theorem less_zero {w : World} {b o : Nat} {l : List Int} {S : List (List Int)} (h : VA w b o (Globe.lessL l Globe.zeroL)) (hl : Globe.validL l = true) : VA w b o (Globe.leftL l (S.take 0)) := by
  rw [List.take_zero]
  have : Globe.lessL l Globe.zeroL = l := Globe.ext_has (Globe.less_valid hl) hl fun x y hx hy => by
    rw [Globe.has_less hy, show Globe.hasL Globe.zeroL x y = false from (Globe.zero_iff (by decide)).1 rfl x y hx hy]; simp
  rw [this] at h; exact h
theorem b2 : ∀ v r : Bool, (v && r) = false → v = false ∨ (v = true ∧ r = false) := by decide
set_option maxRecDepth 1000000 in
set_option maxHeartbeats 4000000 in
theorem rUncovered_v {w1 w2 : World} {a : Option Addr} {n : Nat} {ss : List (List Int × List Int)} {b o : Nat} (c k : Nat) {l : List Int} (w : World) (hl : VA w1 b o l) (e1 : Ext w1 w) (h : StripsAt w2 a n ss) (e2 : Ext w2 w) (hok : Globe.stripsOk ss = true) :
    Calls Tryd.prog 16 #[.agg #[.slice (some ⟨b, o, none⟩) 24 k], .slice a n c] w (UncP w (Globe.leftL l (ss.map fun s => s.2)) (Globe.leftL l (ss.map fun s => s.1))) := by
  have hA := hl.ext e1; have hS := h.ext e2; have hln := h.1; have hnb := h.2.1
  refine calls_cw 48 [(1, .slice a n c), (0, .agg #[.slice (some ⟨b, o, none⟩) 24 k])] Tryd.func16 rfl Tryd.ntmps16 (by kernel_rfl) (by kernel_rfl) (fun L => ?_)
  have hE : Ext w w := Ext.refl w
  refine cw_seq ?_
  refine cw_plain ?_
  refine pl_step rfl (by kernel_rfl) (by kernel_rfl) (by kernel_rfl) (sn_new (us := #[.slice (some ⟨b, o, none⟩) 24 k]) (t := 25) (by kernel_rfl) ?_)
  intro O1 X2 hO hOs hb hbx
  have hzO1 := hO; have hyO1 := hOs; clear hO hOs
  have bO1_0 : BoxAt X2 O1 0 (.slice (some ⟨b, o, none⟩) 24 k) := hbx 0 _ rfl
  clear hbx
  replace hE := hE.trans hb
  have hs3 := hb.size
  clear hb
  have lt4 := bO1_0.lt
  refine pl_step rfl (by kernel_rfl) (by kernel_rfl) (by kernel_rfl) (sn_new (us := #[.slice none 0 0]) (t := 25) (by kernel_rfl) ?_)
  intro O5 X6 hO hOs hb hbx
  have hzO5 := hO; have hyO5 := hOs; clear hO hOs
  have bO5_0 : BoxAt X6 O5 0 (.slice none 0 0) := hbx 0 _ rfl
  clear hbx
  replace hE := hE.trans hb
  replace bO1_0 := BoxAt.ext hb bO1_0
  have hs7 := hb.size
  clear hb
  have lt8 := bO5_0.lt
  refine pl_step rfl (by kernel_rfl) (by kernel_rfl) (by kernel_rfl) (sn_new (us := #[.slice none 0 0]) (t := 25) (by kernel_rfl) ?_)
  intro O9 X10 hO hOs hb hbx
  have hzO9 := hO; have hyO9 := hOs; clear hO hOs
  have bO9_0 : BoxAt X10 O9 0 (.slice none 0 0) := hbx 0 _ rfl
  clear hbx
  replace hE := hE.trans hb
  replace bO1_0 := BoxAt.ext hb bO1_0
  replace bO5_0 := BoxAt.ext hb bO5_0
  have hs11 := hb.size
  clear hb
  have lt12 := bO9_0.lt
  refine pl_take (.int .i64 0) rfl (by kernel_rfl) (by kernel_rfl) (by kernel_rfl) (by kernel_rfl) ?_
  refine pl_nil ?_
  refine qw_then ?_
  refine cw_seq ?_
  refine cw_seq ?_
  refine cw_plain ?_
  refine pl_take (.agg #[.slice (some ⟨b, o, none⟩) 24 k]) rfl (by kernel_rfl) (by kernel_rfl) (by kernel_rfl) (ex_load rfl (by kernel_rfl) (ld25 (bO1_0.1))) ?_
  refine pl_step rfl (by kernel_rfl) (by kernel_rfl) (by kernel_rfl) (sn_call (f := 44) (args := #[.agg #[.slice (some ⟨b, o, none⟩) 24 k]]) (by kernel_rfl) ((rValid_c _ _ (hA.ext hE).aa (Ext.refl _)).mono ?_))
  rintro e w13 ⟨rfl, hb⟩
  replace hE := hE.trans hb
  replace bO1_0 := BoxAt.ext hb bO1_0
  replace bO5_0 := BoxAt.ext hb bO5_0
  replace bO9_0 := BoxAt.ext hb bO9_0
  have hs14 := hb.size
  clear hb
  refine ⟨_, rfl, ?_⟩
  refine pl_take (.bool false) rfl (by kernel_rfl) (by kernel_rfl) (by kernel_rfl) (by kernel_rfl) ?_
  refine pl_take (.bool false) rfl (by kernel_rfl) (by kernel_rfl) (by kernel_rfl) (by kernel_rfl) ?_
  refine pl_take (.slice a n c) rfl (by kernel_rfl) (by kernel_rfl) (by kernel_rfl) (by kernel_rfl) ?_
  refine pl_step rfl (by kernel_rfl) (by kernel_rfl) (by kernel_rfl) (sn_call (f := 20) (args := #[.slice a n c]) (by kernel_rfl) ((rValidS_r (r := true) _ _ hS hE (hok)).mono ?_))
  rintro e w15 ⟨rfl, hb⟩
  replace hE := hE.trans hb
  replace bO1_0 := BoxAt.ext hb bO1_0
  replace bO5_0 := BoxAt.ext hb bO5_0
  replace bO9_0 := BoxAt.ext hb bO9_0
  have hs16 := hb.size
  clear hb
  refine ⟨_, rfl, ?_⟩
  refine pl_take (.bool false) rfl (by kernel_rfl) (by kernel_rfl) (by kernel_rfl) (by kernel_rfl) ?_
  refine pl_take (.bool false) rfl (by kernel_rfl) (by kernel_rfl) (by kernel_rfl) (by kernel_rfl) ?_
  refine pl_nil ?_
  refine qw_then ?_
  refine cw_f (by kernel_rfl) ?_
  refine cw_skip ?_
  refine qw_then ?_
  refine cw_seq ?_
  refine cw_join (fun ws' Y => ∃ B19 : Nat, ∃ B26 : Nat, ∃ k27 : Nat, ∃ O33 : Nat, ws' = [(1, .slice a n c), (2, .pointer (some ⟨O1, 0, none⟩)), (4, .pointer (some ⟨O5, 0, none⟩)), (5, .pointer (some ⟨O9, 0, none⟩)), (7, .pointer (some ⟨O33, 0, none⟩))] ∧ Ext w Y ∧ BoxAt Y O1 0 (.slice (some ⟨b, o, none⟩) 24 k) ∧ BoxAt Y O5 0 (.slice none 0 0) ∧ BoxAt Y O9 0 (.slice none 0 0) ∧ VA Y B19 0 Globe.zeroL ∧ VA Y B26 0 (Globe.lessL l Globe.zeroL) ∧ BoxAt Y O33 0 (.slice (some ⟨B26, 0, none⟩) 24 k27) ∧ w15.heap.size ≤ Y.heap.size ∧ w15.heap.size ≤ B19 ∧ w15.heap.size ≤ B26 ∧ w15.heap.size ≤ O33 ∧ Hid (B19 ≠ B26) ∧ Hid (B19 ≠ O33) ∧ Hid (B26 ≠ O33)) (fun hJ => ?_) ?_
  ·
    refine cw_draw [(some 20, [2], []), (some 21, [], []), (some 22, [20, 21], [0, 1, 1]), (some 7, [], []), (none, [7, 22], [3, 2, 2, 0, 1, 2, 3])] (fun w' => w'.cell? ⟨O1, 0, none⟩ = some (.slice (some ⟨b, o, none⟩) 24 k)) (by kernel_rfl) (by kernel_rfl) (by kernel_rfl) (by kernel_rfl) ((calm_then calm_body)) (bO1_0.1) (fun ops Q X17 hb hL hR hK => ?_)
    replace hE := hE.trans hb
    replace bO1_0 := BoxAt.ext hb bO1_0
    replace bO5_0 := BoxAt.ext hb bO5_0
    replace bO9_0 := BoxAt.ext hb bO9_0
    have hs18 := hb.size
    clear hb
    refine wd_take 0 (.agg #[.slice (some ⟨b, o, none⟩) 24 k]) hR rfl (by kernel_rfl) rfl (by kernel_rfl) (fun w hS => ex_load rfl (by kernel_rfl) (ld25 (hS))) (bO1_0.1) ?_
    refine wd_two 1 3 hR rfl rfl (by kernel_rfl) (by kernel_rfl) (by kernel_rfl) (by kernel_rfl) ?_ ?_
    ·
      refine sn_call (f := 36) (args := #[]) (by kernel_rfl) ((rEmpty_v _).mono ?_)
      rintro e w23 ⟨B19, rfl, hn20, v22, hb⟩
      replace hE := hE.trans hb
      replace bO1_0 := BoxAt.ext hb bO1_0
      replace bO5_0 := BoxAt.ext hb bO5_0
      replace bO9_0 := BoxAt.ext hb bO9_0
      have hs24 := hb.size
      clear hb
      have lt25 := v22.lt
      refine ⟨_, rfl, bO1_0.1, ?_⟩
      refine wd_two 2 3 hR rfl rfl (by kernel_rfl) (by kernel_rfl) (by kernel_rfl) (by kernel_rfl) ?_ ?_
      ·
        refine sn_call (f := 45) (args := #[.agg #[.slice (some ⟨b, o, none⟩) 24 k], .agg #[.slice (some ⟨B19, 0, none⟩) 24 24]]) (by kernel_rfl) ((less16_v _ _ _ (hA.ext hE) (Ext.refl _) v22 (Ext.refl _)).mono ?_)
        rintro e w30 ⟨B26, k27, rfl, hn29, v28, hb⟩
        replace hE := hE.trans hb
        replace bO1_0 := BoxAt.ext hb bO1_0
        replace bO5_0 := BoxAt.ext hb bO5_0
        replace bO9_0 := BoxAt.ext hb bO9_0
        replace v22 := v22.ext hb
        have hs31 := hb.size
        clear hb
        have lt32 := v28.lt
        refine ⟨_, rfl, bO1_0.1, ?_⟩
        refine wd_step 3 hR rfl (by kernel_rfl) (by kernel_rfl) (by kernel_rfl) (sn_new (us := #[.slice none 0 0]) (t := 25) (by kernel_rfl) ?_)
        intro O33 X34 hO hOs hb hbx
        have hzO33 := hO; have hyO33 := hOs; clear hO hOs
        have bO33_0 : BoxAt X34 O33 0 (.slice none 0 0) := hbx 0 _ rfl
        clear hbx
        replace hE := hE.trans hb
        replace bO1_0 := BoxAt.ext hb bO1_0
        replace bO5_0 := BoxAt.ext hb bO5_0
        replace bO9_0 := BoxAt.ext hb bO9_0
        replace v22 := v22.ext hb
        replace v28 := v28.ext hb
        have hs35 := hb.size
        clear hb
        have lt36 := bO33_0.lt
        refine ⟨bO1_0.1, ?_⟩
        refine wd_step 4 hR rfl (by kernel_rfl) (by kernel_rfl) (by kernel_rfl) (sn_set (O := O33) (j := 0) (v := .slice (some ⟨B26, 0, none⟩) 24 k27) (ex_store (p := .pointer (some ⟨O33, 0, none⟩)) (v := .agg #[.slice (some ⟨B26, 0, none⟩) 24 k27]) rfl (by kernel_rfl) (by kernel_rfl) (st25 bO33_0.1 bO33_0.2)) bO33_0 ?_)
        intro X37 ho hv0 hk
        replace hE := ho.ext hE (Nat.le_trans (Nat.le_trans hs3 (Nat.le_trans hs7 (Nat.le_trans hs11 (Nat.le_trans hs14 (Nat.le_trans hs16 (Nat.le_trans hs18 (Nat.le_trans hs24 hs31))))))) (Nat.le_of_eq hzO33))
        replace bO1_0 := ho.box (Nat.ne_of_gt (Nat.lt_of_lt_of_le lt4 (Nat.le_trans (Nat.le_trans hs7 (Nat.le_trans hs11 (Nat.le_trans hs14 (Nat.le_trans hs16 (Nat.le_trans hs18 (Nat.le_trans hs24 hs31)))))) (Nat.le_of_eq hzO33)))) bO1_0
        replace bO5_0 := ho.box (Nat.ne_of_gt (Nat.lt_of_lt_of_le lt8 (Nat.le_trans (Nat.le_trans hs11 (Nat.le_trans hs14 (Nat.le_trans hs16 (Nat.le_trans hs18 (Nat.le_trans hs24 hs31))))) (Nat.le_of_eq hzO33)))) bO5_0
        replace bO9_0 := ho.box (Nat.ne_of_gt (Nat.lt_of_lt_of_le lt12 (Nat.le_trans (Nat.le_trans hs14 (Nat.le_trans hs16 (Nat.le_trans hs18 (Nat.le_trans hs24 hs31)))) (Nat.le_of_eq hzO33)))) bO9_0
        replace v22 := ho.va (Nat.ne_of_gt (Nat.lt_of_lt_of_le lt25 (Nat.le_trans hs31 (Nat.le_of_eq hzO33)))) v22
        replace v28 := ho.va (Nat.ne_of_gt (Nat.lt_of_lt_of_le lt32 (Nat.le_of_eq hzO33))) v28
        have hs38 : X34.heap.size ≤ X37.heap.size := Nat.le_of_eq ho.size.symm
        clear ho hk bO33_0
        have bO33_0 := hv0; clear hv0
        refine ⟨bO1_0.1, ?_⟩
        refine wd_end hL hR hK (by kernel_rfl) ?_
        exact qw_leaf hJ [1, 2, 4, 5, 7] (ws' := [(1, .slice a n c), (2, .pointer (some ⟨O1, 0, none⟩)), (4, .pointer (some ⟨O5, 0, none⟩)), (5, .pointer (some ⟨O9, 0, none⟩)), (7, .pointer (some ⟨O33, 0, none⟩))]) (by kernel_rfl) ⟨B19, B26, k27, O33, rfl, hE, bO1_0, bO5_0, bO9_0, v22, v28, bO33_0, (Nat.le_trans hs18 (Nat.le_trans hs24 (Nat.le_trans hs31 (Nat.le_trans hs35 hs38)))), (Nat.le_trans hs18 hn20), (Nat.le_trans (Nat.le_trans hs18 hs24) hn29), (Nat.le_trans (Nat.le_trans hs18 (Nat.le_trans hs24 hs31)) (Nat.le_of_eq hzO33)), Lib.hid (Nat.ne_of_lt (Nat.lt_of_lt_of_le lt25 hn29)), Lib.hid (Nat.ne_of_lt (Nat.lt_of_lt_of_le lt25 (Nat.le_trans hs31 (Nat.le_of_eq hzO33)))), Lib.hid (Nat.ne_of_lt (Nat.lt_of_lt_of_le lt32 (Nat.le_of_eq hzO33)))⟩
      ·
        refine sn_new (us := #[.slice none 0 0]) (t := 25) (by kernel_rfl) ?_
        intro O39 X40 hO hOs hb hbx
        have hzO39 := hO; have hyO39 := hOs; clear hO hOs
        have bO39_0 : BoxAt X40 O39 0 (.slice none 0 0) := hbx 0 _ rfl
        clear hbx
        replace hE := hE.trans hb
        replace bO1_0 := BoxAt.ext hb bO1_0
        replace bO5_0 := BoxAt.ext hb bO5_0
        replace bO9_0 := BoxAt.ext hb bO9_0
        replace v22 := v22.ext hb
        have hs41 := hb.size
        clear hb
        have lt42 := bO39_0.lt
        refine ⟨bO1_0.1, ?_⟩
        refine wd_step 2 hR rfl (by kernel_rfl) (by kernel_rfl) (by kernel_rfl) (sn_call (f := 45) (args := #[.agg #[.slice (some ⟨b, o, none⟩) 24 k], .agg #[.slice (some ⟨B19, 0, none⟩) 24 24]]) (by kernel_rfl) ((less16_v _ _ _ (hA.ext hE) (Ext.refl _) v22 (Ext.refl _)).mono ?_))
        rintro e w47 ⟨B43, k44, rfl, hn46, v45, hb⟩
        replace hE := hE.trans hb
        replace bO1_0 := BoxAt.ext hb bO1_0
        replace bO5_0 := BoxAt.ext hb bO5_0
        replace bO9_0 := BoxAt.ext hb bO9_0
        replace v22 := v22.ext hb
        replace bO39_0 := BoxAt.ext hb bO39_0
        have hs48 := hb.size
        clear hb
        have lt49 := v45.lt
        refine ⟨_, rfl, bO1_0.1, ?_⟩
        refine wd_step 4 hR rfl (by kernel_rfl) (by kernel_rfl) (by kernel_rfl) (sn_set (O := O39) (j := 0) (v := .slice (some ⟨B43, 0, none⟩) 24 k44) (ex_store (p := .pointer (some ⟨O39, 0, none⟩)) (v := .agg #[.slice (some ⟨B43, 0, none⟩) 24 k44]) rfl (by kernel_rfl) (by kernel_rfl) (st25 bO39_0.1 bO39_0.2)) bO39_0 ?_)
        intro X50 ho hv0 hk
        replace hE := ho.ext hE (Nat.le_trans (Nat.le_trans hs3 (Nat.le_trans hs7 (Nat.le_trans hs11 (Nat.le_trans hs14 (Nat.le_trans hs16 (Nat.le_trans hs18 hs24)))))) (Nat.le_of_eq hzO39))
        replace bO1_0 := ho.box (Nat.ne_of_gt (Nat.lt_of_lt_of_le lt4 (Nat.le_trans (Nat.le_trans hs7 (Nat.le_trans hs11 (Nat.le_trans hs14 (Nat.le_trans hs16 (Nat.le_trans hs18 hs24))))) (Nat.le_of_eq hzO39)))) bO1_0
        replace bO5_0 := ho.box (Nat.ne_of_gt (Nat.lt_of_lt_of_le lt8 (Nat.le_trans (Nat.le_trans hs11 (Nat.le_trans hs14 (Nat.le_trans hs16 (Nat.le_trans hs18 hs24)))) (Nat.le_of_eq hzO39)))) bO5_0
        replace bO9_0 := ho.box (Nat.ne_of_gt (Nat.lt_of_lt_of_le lt12 (Nat.le_trans (Nat.le_trans hs14 (Nat.le_trans hs16 (Nat.le_trans hs18 hs24))) (Nat.le_of_eq hzO39)))) bO9_0
        replace v22 := ho.va (Nat.ne_of_gt (Nat.lt_of_lt_of_le lt25 (Nat.le_of_eq hzO39))) v22
        replace v45 := ho.va (Nat.ne_of_lt (Nat.lt_of_lt_of_le lt42 hn46)) v45
        have hs51 : w47.heap.size ≤ X50.heap.size := Nat.le_of_eq ho.size.symm
        clear ho hk bO39_0
        have bO39_0 := hv0; clear hv0
        refine ⟨bO1_0.1, ?_⟩
        refine wd_end hL hR hK (by kernel_rfl) ?_
        exact qw_leaf hJ [1, 2, 4, 5, 7] (ws' := [(1, .slice a n c), (2, .pointer (some ⟨O1, 0, none⟩)), (4, .pointer (some ⟨O5, 0, none⟩)), (5, .pointer (some ⟨O9, 0, none⟩)), (7, .pointer (some ⟨O39, 0, none⟩))]) (by kernel_rfl) ⟨B19, B43, k44, O39, rfl, hE, bO1_0, bO5_0, bO9_0, v22, v45, bO39_0, (Nat.le_trans hs18 (Nat.le_trans hs24 (Nat.le_trans hs41 (Nat.le_trans hs48 hs51)))), (Nat.le_trans hs18 hn20), (Nat.le_trans (Nat.le_trans hs18 (Nat.le_trans hs24 hs41)) hn46), (Nat.le_trans (Nat.le_trans hs18 hs24) (Nat.le_of_eq hzO39)), Lib.hid (Nat.ne_of_lt (Nat.lt_of_lt_of_le lt25 (Nat.le_trans hs41 hn46))), Lib.hid (Nat.ne_of_lt (Nat.lt_of_lt_of_le lt25 (Nat.le_of_eq hzO39))), Lib.hid (Nat.ne_of_gt (Nat.lt_of_lt_of_le lt42 hn46))⟩
    ·
      refine sn_new (us := #[.slice none 0 0]) (t := 25) (by kernel_rfl) ?_
      intro O52 X53 hO hOs hb hbx
      have hzO52 := hO; have hyO52 := hOs; clear hO hOs
      have bO52_0 : BoxAt X53 O52 0 (.slice none 0 0) := hbx 0 _ rfl
      clear hbx
      replace hE := hE.trans hb
      replace bO1_0 := BoxAt.ext hb bO1_0
      replace bO5_0 := BoxAt.ext hb bO5_0
      replace bO9_0 := BoxAt.ext hb bO9_0
      have hs54 := hb.size
      clear hb
      have lt55 := bO52_0.lt
      refine ⟨bO1_0.1, ?_⟩
      refine wd_step 1 hR rfl (by kernel_rfl) (by kernel_rfl) (by kernel_rfl) (sn_call (f := 36) (args := #[]) (by kernel_rfl) ((rEmpty_v _).mono ?_))
      rintro e w60 ⟨B56, rfl, hn57, v59, hb⟩
      replace hE := hE.trans hb
      replace bO1_0 := BoxAt.ext hb bO1_0
      replace bO5_0 := BoxAt.ext hb bO5_0
      replace bO9_0 := BoxAt.ext hb bO9_0
      replace bO52_0 := BoxAt.ext hb bO52_0
      have hs61 := hb.size
      clear hb
      have lt62 := v59.lt
      refine ⟨_, rfl, bO1_0.1, ?_⟩
      refine wd_step 2 hR rfl (by kernel_rfl) (by kernel_rfl) (by kernel_rfl) (sn_call (f := 45) (args := #[.agg #[.slice (some ⟨b, o, none⟩) 24 k], .agg #[.slice (some ⟨B56, 0, none⟩) 24 24]]) (by kernel_rfl) ((less16_v _ _ _ (hA.ext hE) (Ext.refl _) v59 (Ext.refl _)).mono ?_))
      rintro e w67 ⟨B63, k64, rfl, hn66, v65, hb⟩
      replace hE := hE.trans hb
      replace bO1_0 := BoxAt.ext hb bO1_0
      replace bO5_0 := BoxAt.ext hb bO5_0
      replace bO9_0 := BoxAt.ext hb bO9_0
      replace bO52_0 := BoxAt.ext hb bO52_0
      replace v59 := v59.ext hb
      have hs68 := hb.size
      clear hb
      have lt69 := v65.lt
      refine ⟨_, rfl, bO1_0.1, ?_⟩
      refine wd_step 4 hR rfl (by kernel_rfl) (by kernel_rfl) (by kernel_rfl) (sn_set (O := O52) (j := 0) (v := .slice (some ⟨B63, 0, none⟩) 24 k64) (ex_store (p := .pointer (some ⟨O52, 0, none⟩)) (v := .agg #[.slice (some ⟨B63, 0, none⟩) 24 k64]) rfl (by kernel_rfl) (by kernel_rfl) (st25 bO52_0.1 bO52_0.2)) bO52_0 ?_)
      intro X70 ho hv0 hk
      replace hE := ho.ext hE (Nat.le_trans (Nat.le_trans hs3 (Nat.le_trans hs7 (Nat.le_trans hs11 (Nat.le_trans hs14 (Nat.le_trans hs16 hs18))))) (Nat.le_of_eq hzO52))
      replace bO1_0 := ho.box (Nat.ne_of_gt (Nat.lt_of_lt_of_le lt4 (Nat.le_trans (Nat.le_trans hs7 (Nat.le_trans hs11 (Nat.le_trans hs14 (Nat.le_trans hs16 hs18)))) (Nat.le_of_eq hzO52)))) bO1_0
      replace bO5_0 := ho.box (Nat.ne_of_gt (Nat.lt_of_lt_of_le lt8 (Nat.le_trans (Nat.le_trans hs11 (Nat.le_trans hs14 (Nat.le_trans hs16 hs18))) (Nat.le_of_eq hzO52)))) bO5_0
      replace bO9_0 := ho.box (Nat.ne_of_gt (Nat.lt_of_lt_of_le lt12 (Nat.le_trans (Nat.le_trans hs14 (Nat.le_trans hs16 hs18)) (Nat.le_of_eq hzO52)))) bO9_0
      replace v59 := ho.va (Nat.ne_of_lt (Nat.lt_of_lt_of_le lt55 hn57)) v59
      replace v65 := ho.va (Nat.ne_of_lt (Nat.lt_of_lt_of_le lt55 (Nat.le_trans hs61 hn66))) v65
      have hs71 : w67.heap.size ≤ X70.heap.size := Nat.le_of_eq ho.size.symm
      clear ho hk bO52_0
      have bO52_0 := hv0; clear hv0
      refine ⟨bO1_0.1, ?_⟩
      refine wd_end hL hR hK (by kernel_rfl) ?_
      exact qw_leaf hJ [1, 2, 4, 5, 7] (ws' := [(1, .slice a n c), (2, .pointer (some ⟨O1, 0, none⟩)), (4, .pointer (some ⟨O5, 0, none⟩)), (5, .pointer (some ⟨O9, 0, none⟩)), (7, .pointer (some ⟨O52, 0, none⟩))]) (by kernel_rfl) ⟨B56, B63, k64, O52, rfl, hE, bO1_0, bO5_0, bO9_0, v59, v65, bO52_0, (Nat.le_trans hs18 (Nat.le_trans hs54 (Nat.le_trans hs61 (Nat.le_trans hs68 hs71)))), (Nat.le_trans (Nat.le_trans hs18 hs54) hn57), (Nat.le_trans (Nat.le_trans hs18 (Nat.le_trans hs54 hs61)) hn66), (Nat.le_trans hs18 (Nat.le_of_eq hzO52)), Lib.hid (Nat.ne_of_lt (Nat.lt_of_lt_of_le lt62 hn66)), Lib.hid (Nat.ne_of_gt (Nat.lt_of_lt_of_le lt55 hn57)), Lib.hid (Nat.ne_of_gt (Nat.lt_of_lt_of_le lt55 (Nat.le_trans hs61 hn66)))⟩
  ·
    clear bO1_0 bO5_0 bO9_0 hE
    rintro L ws Y72 ⟨B19, B26, k27, O33, rfl, hE, bO1_0, bO5_0, bO9_0, v22, v28, bO33_0, hn73, hn74, hn75, hn76, hn77, hn78, hn79⟩
    have lt80 := v22.lt
    have lt81 := v28.lt
    have lt82 := bO33_0.lt
    refine qw_then ?_
    refine cw_seq ?_
    refine cw_join (fun ws' Y => ∃ B85 : Nat, ∃ B92 : Nat, ∃ k93 : Nat, ∃ O99 : Nat, ws' = [(1, .slice a n c), (4, .pointer (some ⟨O5, 0, none⟩)), (5, .pointer (some ⟨O9, 0, none⟩)), (7, .pointer (some ⟨O33, 0, none⟩)), (8, .pointer (some ⟨O99, 0, none⟩))] ∧ Ext w Y ∧ BoxAt Y O1 0 (.slice (some ⟨b, o, none⟩) 24 k) ∧ BoxAt Y O5 0 (.slice none 0 0) ∧ BoxAt Y O9 0 (.slice none 0 0) ∧ VA Y B19 0 Globe.zeroL ∧ VA Y B26 0 (Globe.lessL l Globe.zeroL) ∧ BoxAt Y O33 0 (.slice (some ⟨B26, 0, none⟩) 24 k27) ∧ VA Y B85 0 Globe.zeroL ∧ VA Y B92 0 (Globe.lessL l Globe.zeroL) ∧ BoxAt Y O99 0 (.slice (some ⟨B92, 0, none⟩) 24 k93) ∧ Y72.heap.size ≤ Y.heap.size ∧ Y72.heap.size ≤ B85 ∧ Y72.heap.size ≤ B92 ∧ Y72.heap.size ≤ O99 ∧ Hid (B85 ≠ B92) ∧ Hid (B85 ≠ O99) ∧ Hid (B92 ≠ O99)) (fun hJ => ?_) ?_
    ·
      refine cw_draw [(some 23, [2], []), (some 24, [], []), (some 25, [23, 24], [0, 1, 1]), (some 8, [], []), (none, [8, 25], [3, 2, 2, 0, 1, 2, 3])] (fun w' => w'.cell? ⟨O1, 0, none⟩ = some (.slice (some ⟨b, o, none⟩) 24 k)) (by kernel_rfl) (by kernel_rfl) (by kernel_rfl) (by kernel_rfl) ((calm_then calm_body)) (bO1_0.1) (fun ops Q X83 hb hL hR hK => ?_)
      replace hE := hE.trans hb
      replace bO1_0 := BoxAt.ext hb bO1_0
      replace bO5_0 := BoxAt.ext hb bO5_0
      replace bO9_0 := BoxAt.ext hb bO9_0
      replace v22 := v22.ext hb
      replace v28 := v28.ext hb
      replace bO33_0 := BoxAt.ext hb bO33_0
      have hs84 := hb.size
      clear hb
      refine wd_take 0 (.agg #[.slice (some ⟨b, o, none⟩) 24 k]) hR rfl (by kernel_rfl) rfl (by kernel_rfl) (fun w hS => ex_load rfl (by kernel_rfl) (ld25 (hS))) (bO1_0.1) ?_
      refine wd_two 1 3 hR rfl rfl (by kernel_rfl) (by kernel_rfl) (by kernel_rfl) (by kernel_rfl) ?_ ?_
      ·
        refine sn_call (f := 36) (args := #[]) (by kernel_rfl) ((rEmpty_v _).mono ?_)
        rintro e w89 ⟨B85, rfl, hn86, v88, hb⟩
        replace hE := hE.trans hb
        replace bO1_0 := BoxAt.ext hb bO1_0
        replace bO5_0 := BoxAt.ext hb bO5_0
        replace bO9_0 := BoxAt.ext hb bO9_0
        replace v22 := v22.ext hb
        replace v28 := v28.ext hb
        replace bO33_0 := BoxAt.ext hb bO33_0
        have hs90 := hb.size
        clear hb
        have lt91 := v88.lt
        refine ⟨_, rfl, bO1_0.1, ?_⟩
        refine wd_two 2 3 hR rfl rfl (by kernel_rfl) (by kernel_rfl) (by kernel_rfl) (by kernel_rfl) ?_ ?_
        ·
          refine sn_call (f := 45) (args := #[.agg #[.slice (some ⟨b, o, none⟩) 24 k], .agg #[.slice (some ⟨B85, 0, none⟩) 24 24]]) (by kernel_rfl) ((less16_v _ _ _ (hA.ext hE) (Ext.refl _) v88 (Ext.refl _)).mono ?_)
          rintro e w96 ⟨B92, k93, rfl, hn95, v94, hb⟩
          replace hE := hE.trans hb
          replace bO1_0 := BoxAt.ext hb bO1_0
          replace bO5_0 := BoxAt.ext hb bO5_0
          replace bO9_0 := BoxAt.ext hb bO9_0
          replace v22 := v22.ext hb
          replace v28 := v28.ext hb
          replace bO33_0 := BoxAt.ext hb bO33_0
          replace v88 := v88.ext hb
          have hs97 := hb.size
          clear hb
          have lt98 := v94.lt
          refine ⟨_, rfl, bO1_0.1, ?_⟩
          refine wd_step 3 hR rfl (by kernel_rfl) (by kernel_rfl) (by kernel_rfl) (sn_new (us := #[.slice none 0 0]) (t := 25) (by kernel_rfl) ?_)
          intro O99 X100 hO hOs hb hbx
          have hzO99 := hO; have hyO99 := hOs; clear hO hOs
          have bO99_0 : BoxAt X100 O99 0 (.slice none 0 0) := hbx 0 _ rfl
          clear hbx
          replace hE := hE.trans hb
          replace bO1_0 := BoxAt.ext hb bO1_0
          replace bO5_0 := BoxAt.ext hb bO5_0
          replace bO9_0 := BoxAt.ext hb bO9_0
          replace v22 := v22.ext hb
          replace v28 := v28.ext hb
          replace bO33_0 := BoxAt.ext hb bO33_0
          replace v88 := v88.ext hb
          replace v94 := v94.ext hb
          have hs101 := hb.size
          clear hb
          have lt102 := bO99_0.lt
          refine ⟨bO1_0.1, ?_⟩
          refine wd_step 4 hR rfl (by kernel_rfl) (by kernel_rfl) (by kernel_rfl) (sn_set (O := O99) (j := 0) (v := .slice (some ⟨B92, 0, none⟩) 24 k93) (ex_store (p := .pointer (some ⟨O99, 0, none⟩)) (v := .agg #[.slice (some ⟨B92, 0, none⟩) 24 k93]) rfl (by kernel_rfl) (by kernel_rfl) (st25 bO99_0.1 bO99_0.2)) bO99_0 ?_)
          intro X103 ho hv0 hk
          replace hE := ho.ext hE (Nat.le_trans (Nat.le_trans hs3 (Nat.le_trans hs7 (Nat.le_trans hs11 (Nat.le_trans hs14 (Nat.le_trans hs16 (Nat.le_trans hn73 (Nat.le_trans hs84 (Nat.le_trans hs90 hs97)))))))) (Nat.le_of_eq hzO99))
          replace bO1_0 := ho.box (Nat.ne_of_gt (Nat.lt_of_lt_of_le lt4 (Nat.le_trans (Nat.le_trans hs7 (Nat.le_trans hs11 (Nat.le_trans hs14 (Nat.le_trans hs16 (Nat.le_trans hn73 (Nat.le_trans hs84 (Nat.le_trans hs90 hs97))))))) (Nat.le_of_eq hzO99)))) bO1_0
          replace bO5_0 := ho.box (Nat.ne_of_gt (Nat.lt_of_lt_of_le lt8 (Nat.le_trans (Nat.le_trans hs11 (Nat.le_trans hs14 (Nat.le_trans hs16 (Nat.le_trans hn73 (Nat.le_trans hs84 (Nat.le_trans hs90 hs97)))))) (Nat.le_of_eq hzO99)))) bO5_0
          replace bO9_0 := ho.box (Nat.ne_of_gt (Nat.lt_of_lt_of_le lt12 (Nat.le_trans (Nat.le_trans hs14 (Nat.le_trans hs16 (Nat.le_trans hn73 (Nat.le_trans hs84 (Nat.le_trans hs90 hs97))))) (Nat.le_of_eq hzO99)))) bO9_0
          replace v22 := ho.va (Nat.ne_of_gt (Nat.lt_of_lt_of_le lt80 (Nat.le_trans (Nat.le_trans hs84 (Nat.le_trans hs90 hs97)) (Nat.le_of_eq hzO99)))) v22
          replace v28 := ho.va (Nat.ne_of_gt (Nat.lt_of_lt_of_le lt81 (Nat.le_trans (Nat.le_trans hs84 (Nat.le_trans hs90 hs97)) (Nat.le_of_eq hzO99)))) v28
          replace bO33_0 := ho.box (Nat.ne_of_gt (Nat.lt_of_lt_of_le lt82 (Nat.le_trans (Nat.le_trans hs84 (Nat.le_trans hs90 hs97)) (Nat.le_of_eq hzO99)))) bO33_0
          replace v88 := ho.va (Nat.ne_of_gt (Nat.lt_of_lt_of_le lt91 (Nat.le_trans hs97 (Nat.le_of_eq hzO99)))) v88
          replace v94 := ho.va (Nat.ne_of_gt (Nat.lt_of_lt_of_le lt98 (Nat.le_of_eq hzO99))) v94
          have hs104 : X100.heap.size ≤ X103.heap.size := Nat.le_of_eq ho.size.symm
          clear ho hk bO99_0
          have bO99_0 := hv0; clear hv0
          refine ⟨bO1_0.1, ?_⟩
          refine wd_end hL hR hK (by kernel_rfl) ?_
          exact qw_leaf hJ [1, 4, 5, 7, 8] (ws' := [(1, .slice a n c), (4, .pointer (some ⟨O5, 0, none⟩)), (5, .pointer (some ⟨O9, 0, none⟩)), (7, .pointer (some ⟨O33, 0, none⟩)), (8, .pointer (some ⟨O99, 0, none⟩))]) (by kernel_rfl) ⟨B85, B92, k93, O99, rfl, hE, bO1_0, bO5_0, bO9_0, v22, v28, bO33_0, v88, v94, bO99_0, (Nat.le_trans hs84 (Nat.le_trans hs90 (Nat.le_trans hs97 (Nat.le_trans hs101 hs104)))), (Nat.le_trans hs84 hn86), (Nat.le_trans (Nat.le_trans hs84 hs90) hn95), (Nat.le_trans (Nat.le_trans hs84 (Nat.le_trans hs90 hs97)) (Nat.le_of_eq hzO99)), Lib.hid (Nat.ne_of_lt (Nat.lt_of_lt_of_le lt91 hn95)), Lib.hid (Nat.ne_of_lt (Nat.lt_of_lt_of_le lt91 (Nat.le_trans hs97 (Nat.le_of_eq hzO99)))), Lib.hid (Nat.ne_of_lt (Nat.lt_of_lt_of_le lt98 (Nat.le_of_eq hzO99)))⟩
        ·
          refine sn_new (us := #[.slice none 0 0]) (t := 25) (by kernel_rfl) ?_
          intro O105 X106 hO hOs hb hbx
          have hzO105 := hO; have hyO105 := hOs; clear hO hOs
          have bO105_0 : BoxAt X106 O105 0 (.slice none 0 0) := hbx 0 _ rfl
          clear hbx
          replace hE := hE.trans hb
          replace bO1_0 := BoxAt.ext hb bO1_0
          replace bO5_0 := BoxAt.ext hb bO5_0
          replace bO9_0 := BoxAt.ext hb bO9_0
          replace v22 := v22.ext hb
          replace v28 := v28.ext hb
          replace bO33_0 := BoxAt.ext hb bO33_0
          replace v88 := v88.ext hb
          have hs107 := hb.size
          clear hb
          have lt108 := bO105_0.lt
          refine ⟨bO1_0.1, ?_⟩
          refine wd_step 2 hR rfl (by kernel_rfl) (by kernel_rfl) (by kernel_rfl) (sn_call (f := 45) (args := #[.agg #[.slice (some ⟨b, o, none⟩) 24 k], .agg #[.slice (some ⟨B85, 0, none⟩) 24 24]]) (by kernel_rfl) ((less16_v _ _ _ (hA.ext hE) (Ext.refl _) v88 (Ext.refl _)).mono ?_))
          rintro e w113 ⟨B109, k110, rfl, hn112, v111, hb⟩
          replace hE := hE.trans hb
          replace bO1_0 := BoxAt.ext hb bO1_0
          replace bO5_0 := BoxAt.ext hb bO5_0
          replace bO9_0 := BoxAt.ext hb bO9_0
          replace v22 := v22.ext hb
          replace v28 := v28.ext hb
          replace bO33_0 := BoxAt.ext hb bO33_0
          replace v88 := v88.ext hb
          replace bO105_0 := BoxAt.ext hb bO105_0
          have hs114 := hb.size
          clear hb
          have lt115 := v111.lt
          refine ⟨_, rfl, bO1_0.1, ?_⟩
          refine wd_step 4 hR rfl (by kernel_rfl) (by kernel_rfl) (by kernel_rfl) (sn_set (O := O105) (j := 0) (v := .slice (some ⟨B109, 0, none⟩) 24 k110) (ex_store (p := .pointer (some ⟨O105, 0, none⟩)) (v := .agg #[.slice (some ⟨B109, 0, none⟩) 24 k110]) rfl (by kernel_rfl) (by kernel_rfl) (st25 bO105_0.1 bO105_0.2)) bO105_0 ?_)
          intro X116 ho hv0 hk
          replace hE := ho.ext hE (Nat.le_trans (Nat.le_trans hs3 (Nat.le_trans hs7 (Nat.le_trans hs11 (Nat.le_trans hs14 (Nat.le_trans hs16 (Nat.le_trans hn73 (Nat.le_trans hs84 hs90))))))) (Nat.le_of_eq hzO105))
          replace bO1_0 := ho.box (Nat.ne_of_gt (Nat.lt_of_lt_of_le lt4 (Nat.le_trans (Nat.le_trans hs7 (Nat.le_trans hs11 (Nat.le_trans hs14 (Nat.le_trans hs16 (Nat.le_trans hn73 (Nat.le_trans hs84 hs90)))))) (Nat.le_of_eq hzO105)))) bO1_0
          replace bO5_0 := ho.box (Nat.ne_of_gt (Nat.lt_of_lt_of_le lt8 (Nat.le_trans (Nat.le_trans hs11 (Nat.le_trans hs14 (Nat.le_trans hs16 (Nat.le_trans hn73 (Nat.le_trans hs84 hs90))))) (Nat.le_of_eq hzO105)))) bO5_0
          replace bO9_0 := ho.box (Nat.ne_of_gt (Nat.lt_of_lt_of_le lt12 (Nat.le_trans (Nat.le_trans hs14 (Nat.le_trans hs16 (Nat.le_trans hn73 (Nat.le_trans hs84 hs90)))) (Nat.le_of_eq hzO105)))) bO9_0
          replace v22 := ho.va (Nat.ne_of_gt (Nat.lt_of_lt_of_le lt80 (Nat.le_trans (Nat.le_trans hs84 hs90) (Nat.le_of_eq hzO105)))) v22
          replace v28 := ho.va (Nat.ne_of_gt (Nat.lt_of_lt_of_le lt81 (Nat.le_trans (Nat.le_trans hs84 hs90) (Nat.le_of_eq hzO105)))) v28
          replace bO33_0 := ho.box (Nat.ne_of_gt (Nat.lt_of_lt_of_le lt82 (Nat.le_trans (Nat.le_trans hs84 hs90) (Nat.le_of_eq hzO105)))) bO33_0
          replace v88 := ho.va (Nat.ne_of_gt (Nat.lt_of_lt_of_le lt91 (Nat.le_of_eq hzO105))) v88
          replace v111 := ho.va (Nat.ne_of_lt (Nat.lt_of_lt_of_le lt108 hn112)) v111
          have hs117 : w113.heap.size ≤ X116.heap.size := Nat.le_of_eq ho.size.symm
          clear ho hk bO105_0
          have bO105_0 := hv0; clear hv0
          refine ⟨bO1_0.1, ?_⟩
          refine wd_end hL hR hK (by kernel_rfl) ?_
          exact qw_leaf hJ [1, 4, 5, 7, 8] (ws' := [(1, .slice a n c), (4, .pointer (some ⟨O5, 0, none⟩)), (5, .pointer (some ⟨O9, 0, none⟩)), (7, .pointer (some ⟨O33, 0, none⟩)), (8, .pointer (some ⟨O105, 0, none⟩))]) (by kernel_rfl) ⟨B85, B109, k110, O105, rfl, hE, bO1_0, bO5_0, bO9_0, v22, v28, bO33_0, v88, v111, bO105_0, (Nat.le_trans hs84 (Nat.le_trans hs90 (Nat.le_trans hs107 (Nat.le_trans hs114 hs117)))), (Nat.le_trans hs84 hn86), (Nat.le_trans (Nat.le_trans hs84 (Nat.le_trans hs90 hs107)) hn112), (Nat.le_trans (Nat.le_trans hs84 hs90) (Nat.le_of_eq hzO105)), Lib.hid (Nat.ne_of_lt (Nat.lt_of_lt_of_le lt91 (Nat.le_trans hs107 hn112))), Lib.hid (Nat.ne_of_lt (Nat.lt_of_lt_of_le lt91 (Nat.le_of_eq hzO105))), Lib.hid (Nat.ne_of_gt (Nat.lt_of_lt_of_le lt108 hn112))⟩
      ·
        refine sn_new (us := #[.slice none 0 0]) (t := 25) (by kernel_rfl) ?_
        intro O118 X119 hO hOs hb hbx
        have hzO118 := hO; have hyO118 := hOs; clear hO hOs
        have bO118_0 : BoxAt X119 O118 0 (.slice none 0 0) := hbx 0 _ rfl
        clear hbx
        replace hE := hE.trans hb
        replace bO1_0 := BoxAt.ext hb bO1_0
        replace bO5_0 := BoxAt.ext hb bO5_0
        replace bO9_0 := BoxAt.ext hb bO9_0
        replace v22 := v22.ext hb
        replace v28 := v28.ext hb
        replace bO33_0 := BoxAt.ext hb bO33_0
        have hs120 := hb.size
        clear hb
        have lt121 := bO118_0.lt
        refine ⟨bO1_0.1, ?_⟩
        refine wd_step 1 hR rfl (by kernel_rfl) (by kernel_rfl) (by kernel_rfl) (sn_call (f := 36) (args := #[]) (by kernel_rfl) ((rEmpty_v _).mono ?_))
        rintro e w126 ⟨B122, rfl, hn123, v125, hb⟩
        replace hE := hE.trans hb
        replace bO1_0 := BoxAt.ext hb bO1_0
        replace bO5_0 := BoxAt.ext hb bO5_0
        replace bO9_0 := BoxAt.ext hb bO9_0
        replace v22 := v22.ext hb
        replace v28 := v28.ext hb
        replace bO33_0 := BoxAt.ext hb bO33_0
        replace bO118_0 := BoxAt.ext hb bO118_0
        have hs127 := hb.size
        clear hb
        have lt128 := v125.lt
        refine ⟨_, rfl, bO1_0.1, ?_⟩
        refine wd_step 2 hR rfl (by kernel_rfl) (by kernel_rfl) (by kernel_rfl) (sn_call (f := 45) (args := #[.agg #[.slice (some ⟨b, o, none⟩) 24 k], .agg #[.slice (some ⟨B122, 0, none⟩) 24 24]]) (by kernel_rfl) ((less16_v _ _ _ (hA.ext hE) (Ext.refl _) v125 (Ext.refl _)).mono ?_))
        rintro e w133 ⟨B129, k130, rfl, hn132, v131, hb⟩
        replace hE := hE.trans hb
        replace bO1_0 := BoxAt.ext hb bO1_0
        replace bO5_0 := BoxAt.ext hb bO5_0
        replace bO9_0 := BoxAt.ext hb bO9_0
        replace v22 := v22.ext hb
        replace v28 := v28.ext hb
        replace bO33_0 := BoxAt.ext hb bO33_0
        replace bO118_0 := BoxAt.ext hb bO118_0
        replace v125 := v125.ext hb
        have hs134 := hb.size
        clear hb
        have lt135 := v131.lt
        refine ⟨_, rfl, bO1_0.1, ?_⟩
        refine wd_step 4 hR rfl (by kernel_rfl) (by kernel_rfl) (by kernel_rfl) (sn_set (O := O118) (j := 0) (v := .slice (some ⟨B129, 0, none⟩) 24 k130) (ex_store (p := .pointer (some ⟨O118, 0, none⟩)) (v := .agg #[.slice (some ⟨B129, 0, none⟩) 24 k130]) rfl (by kernel_rfl) (by kernel_rfl) (st25 bO118_0.1 bO118_0.2)) bO118_0 ?_)
        intro X136 ho hv0 hk
        replace hE := ho.ext hE (Nat.le_trans (Nat.le_trans hs3 (Nat.le_trans hs7 (Nat.le_trans hs11 (Nat.le_trans hs14 (Nat.le_trans hs16 (Nat.le_trans hn73 hs84)))))) (Nat.le_of_eq hzO118))
        replace bO1_0 := ho.box (Nat.ne_of_gt (Nat.lt_of_lt_of_le lt4 (Nat.le_trans (Nat.le_trans hs7 (Nat.le_trans hs11 (Nat.le_trans hs14 (Nat.le_trans hs16 (Nat.le_trans hn73 hs84))))) (Nat.le_of_eq hzO118)))) bO1_0
        replace bO5_0 := ho.box (Nat.ne_of_gt (Nat.lt_of_lt_of_le lt8 (Nat.le_trans (Nat.le_trans hs11 (Nat.le_trans hs14 (Nat.le_trans hs16 (Nat.le_trans hn73 hs84)))) (Nat.le_of_eq hzO118)))) bO5_0
        replace bO9_0 := ho.box (Nat.ne_of_gt (Nat.lt_of_lt_of_le lt12 (Nat.le_trans (Nat.le_trans hs14 (Nat.le_trans hs16 (Nat.le_trans hn73 hs84))) (Nat.le_of_eq hzO118)))) bO9_0
        replace v22 := ho.va (Nat.ne_of_gt (Nat.lt_of_lt_of_le lt80 (Nat.le_trans hs84 (Nat.le_of_eq hzO118)))) v22
        replace v28 := ho.va (Nat.ne_of_gt (Nat.lt_of_lt_of_le lt81 (Nat.le_trans hs84 (Nat.le_of_eq hzO118)))) v28
        replace bO33_0 := ho.box (Nat.ne_of_gt (Nat.lt_of_lt_of_le lt82 (Nat.le_trans hs84 (Nat.le_of_eq hzO118)))) bO33_0
        replace v125 := ho.va (Nat.ne_of_lt (Nat.lt_of_lt_of_le lt121 hn123)) v125
        replace v131 := ho.va (Nat.ne_of_lt (Nat.lt_of_lt_of_le lt121 (Nat.le_trans hs127 hn132))) v131
        have hs137 : w133.heap.size ≤ X136.heap.size := Nat.le_of_eq ho.size.symm
        clear ho hk bO118_0
        have bO118_0 := hv0; clear hv0
        refine ⟨bO1_0.1, ?_⟩
        refine wd_end hL hR hK (by kernel_rfl) ?_
        exact qw_leaf hJ [1, 4, 5, 7, 8] (ws' := [(1, .slice a n c), (4, .pointer (some ⟨O5, 0, none⟩)), (5, .pointer (some ⟨O9, 0, none⟩)), (7, .pointer (some ⟨O33, 0, none⟩)), (8, .pointer (some ⟨O118, 0, none⟩))]) (by kernel_rfl) ⟨B122, B129, k130, O118, rfl, hE, bO1_0, bO5_0, bO9_0, v22, v28, bO33_0, v125, v131, bO118_0, (Nat.le_trans hs84 (Nat.le_trans hs120 (Nat.le_trans hs127 (Nat.le_trans hs134 hs137)))), (Nat.le_trans (Nat.le_trans hs84 hs120) hn123), (Nat.le_trans (Nat.le_trans hs84 (Nat.le_trans hs120 hs127)) hn132), (Nat.le_trans hs84 (Nat.le_of_eq hzO118)), Lib.hid (Nat.ne_of_lt (Nat.lt_of_lt_of_le lt128 hn132)), Lib.hid (Nat.ne_of_gt (Nat.lt_of_lt_of_le lt121 hn123)), Lib.hid (Nat.ne_of_gt (Nat.lt_of_lt_of_le lt121 (Nat.le_trans hs127 hn132)))⟩
    ·
      clear bO1_0 bO5_0 bO9_0 v22 v28 bO33_0 hE
      rintro L ws Y138 ⟨B85, B92, k93, O99, rfl, hE, bO1_0, bO5_0, bO9_0, v22, v28, bO33_0, v88, v94, bO99_0, hn139, hn140, hn141, hn142, hn143, hn144, hn145⟩
      have lt146 := v88.lt
      have lt147 := v94.lt
      have lt148 := bO99_0.lt
      refine qw_then ?_
      refine cw_seq ?_
      refine cw_seq ?_
      refine cw_plain ?_
      refine pl_take (.int .i64 0) rfl (by kernel_rfl) (by kernel_rfl) (by kernel_rfl) (by kernel_rfl) ?_
      refine pl_nil ?_
      refine qw_then ?_
      refine cw_block ?_
      refine cw_loop [1, 4, 5, 7, 8, 9] (fun ws' wr m => ∃ i : Nat, ∃ BA : Nat, ∃ kA : Nat, ∃ BB : Nat, ∃ kB : Nat, ws' = [(1, .slice a n c), (4, .pointer (some ⟨O5, 0, none⟩)), (5, .pointer (some ⟨O9, 0, none⟩)), (7, .pointer (some ⟨O33, 0, none⟩)), (8, .pointer (some ⟨O99, 0, none⟩)), (9, .int .i64 (((i : Nat) : Int) : Int))] ∧ m = n - i ∧ Y138.heap.size ≤ wr.heap.size ∧ Ext w wr ∧ BoxAt wr O1 0 (.slice (some ⟨b, o, none⟩) 24 k) ∧ BoxAt wr O5 0 (.slice none 0 0) ∧ BoxAt wr O9 0 (.slice none 0 0) ∧ VA wr B19 0 Globe.zeroL ∧ VA wr B85 0 Globe.zeroL ∧ BoxAt wr O33 0 (.slice (some ⟨BA, 0, none⟩) 24 kA) ∧ VA wr BA 0 (Globe.leftL l ((ss.map fun s => s.2).take i)) ∧ BoxAt wr O99 0 (.slice (some ⟨BB, 0, none⟩) 24 kB) ∧ VA wr BB 0 (Globe.leftL l ((ss.map fun s => s.1).take i)) ∧ i ≤ n ∧ Hid (O33 ≠ BA) ∧ Hid (O33 ≠ BB) ∧ Hid (O99 ≠ BA) ∧ Hid (O99 ≠ BB) ∧ Hid (O5 ≠ BA) ∧ Hid (O5 ≠ BB) ∧ Hid (O9 ≠ BA) ∧ Hid (O9 ≠ BB)) (ws0 := [(1, .slice a n c), (4, .pointer (some ⟨O5, 0, none⟩)), (5, .pointer (some ⟨O9, 0, none⟩)), (7, .pointer (some ⟨O33, 0, none⟩)), (8, .pointer (some ⟨O99, 0, none⟩)), (9, .int .i64 0)]) (by kernel_rfl) _ ⟨0, B26, k27, B92, k93, rfl, rfl, Nat.le_refl _, hE, bO1_0, bO5_0, bO9_0, v22, v88, bO33_0, (less_zero v28 hA.2), bO99_0, (less_zero v94 hA.2), by omega, Lib.hid (Ne.symm hn79.out), Lib.hid (Nat.ne_of_lt (Nat.lt_of_lt_of_le lt82 hn141)), Lib.hid (Nat.ne_of_gt (Nat.lt_of_lt_of_le lt81 hn142)), Lib.hid (Ne.symm hn145.out), Lib.hid (Nat.ne_of_lt (Nat.lt_of_lt_of_le lt8 (Nat.le_trans (Nat.le_trans hs11 (Nat.le_trans hs14 hs16)) hn75))), Lib.hid (Nat.ne_of_lt (Nat.lt_of_lt_of_le lt8 (Nat.le_trans (Nat.le_trans hs11 (Nat.le_trans hs14 (Nat.le_trans hs16 hn73))) hn141))), Lib.hid (Nat.ne_of_lt (Nat.lt_of_lt_of_le lt12 (Nat.le_trans (Nat.le_trans hs14 hs16) hn75))), Lib.hid (Nat.ne_of_lt (Nat.lt_of_lt_of_le lt12 (Nat.le_trans (Nat.le_trans hs14 (Nat.le_trans hs16 hn73)) hn141)))⟩ ?_
      clear bO1_0 bO5_0 bO9_0 v22 v28 bO33_0 v88 v94 bO99_0 hE
      rintro m151 L ws w150 ⟨i, BA, kA, BB, kB, rfl, rfl, hs149, hE, bO1_0, bO5_0, bO9_0, v22, v88, bO33_0, vA, bO99_0, vB, hi, hneO33BA, hneO33BB, hneO99BA, hneO99BB, hneO5BA, hneO5BB, hneO9BA, hneO9BB⟩
      have lt152 := vA.lt
      have lt153 := vB.lt
      by_cases hlt : i < n
      ·
        obtain ⟨sb, so, s, rfl, hs, hst⟩ := hS.at hlt
        obtain ⟨q1', q2', q3'⟩ := okS_at hok hs
        obtain ⟨S1, s1, e1', S2, s2, e2', d1, d2, g1, g2⟩ := hst.v q1' q2'
        have hl2 : Globe.leftL l ((ss.map fun s => s.2).take (i + 1)) = Globe.lessL (Globe.leftL l ((ss.map fun s => s.2).take i)) s.2 := by rw [take_snoc' (x := s.2) (by rw [List.getElem?_map, hs]; rfl), Globe.left_snoc]
        have hl1 : Globe.leftL l ((ss.map fun s => s.1).take (i + 1)) = Globe.lessL (Globe.leftL l ((ss.map fun s => s.1).take i)) s.1 := by rw [take_snoc' (x := s.1) (by rw [List.getElem?_map, hs]; rfl), Globe.left_snoc]
        refine cw_seq ?_
        refine cw_seq ?_
        refine cw_plain ?_
        refine pl_take (.int .i64 (((i : Nat) : Int) : Int)) rfl (by kernel_rfl) (by kernel_rfl) (by kernel_rfl) (by kernel_rfl) ?_
        refine pl_take (.slice (some ⟨sb, so, none⟩) n c) rfl (by kernel_rfl) (by kernel_rfl) (by kernel_rfl) (by kernel_rfl) ?_
        refine pl_take (.int .i64 (((n : Nat) : Int) : Int)) rfl (by kernel_rfl) (by kernel_rfl) (by kernel_rfl) (by kernel_rfl) ?_
        refine pl_take (.bool true) rfl (by kernel_rfl) (by kernel_rfl) (by kernel_rfl) (ev_dec (show _ = Result.ok (Next.value (Value.bool (decide ((((i : Nat) : Int) : Int) < (((n : Nat) : Int) : Int))))) _ from by kernel_rfl) (by omega)) ?_
        refine pl_nil ?_
        refine qw_then ?_
        refine cw_t (by kernel_rfl) ?_
        refine cw_skip ?_
        refine qw_then ?_
        refine cw_seq ?_
        refine cw_block ?_
        refine cw_seq ?_
        refine cw_draw [(some 32, [7], []), (some 33, [1], []), (some 34, [9], []), (some 35, [33, 34], [1, 2]), (some 36, [35], [3]), (some 37, [36], [4]), (some 38, [32, 37], [0, 5]), (none, [7, 38], [6, 6, 0, 1, 2, 3, 4, 5, 6])] (fun w' => w'.cell? ⟨sb, so + i * 2 + 1, none⟩ = some (.slice (some ⟨S2, s2, none⟩) 24 e2')) (by kernel_rfl) (by kernel_rfl) (by kernel_rfl) (by kernel_rfl) ((calm_then (calm_block (calm_then (calm_then (calm_block (calm_then calm_body))))))) ((hE.cell d2)) (fun ops Q X154 hb hL hR hK => ?_)
        replace hE := hE.trans hb
        replace bO1_0 := BoxAt.ext hb bO1_0
        replace bO5_0 := BoxAt.ext hb bO5_0
        replace bO9_0 := BoxAt.ext hb bO9_0
        replace v22 := v22.ext hb
        replace v88 := v88.ext hb
        replace bO33_0 := BoxAt.ext hb bO33_0
        replace vA := vA.ext hb
        replace bO99_0 := BoxAt.ext hb bO99_0
        replace vB := vB.ext hb
        have hs155 := hb.size
        clear hb
        refine wd_take 1 (.slice (some ⟨sb, so, none⟩) n c) hR rfl (by kernel_rfl) rfl (by kernel_rfl) (fun w _ => by kernel_rfl) ((hE.cell d2)) ?_
        refine wd_take 2 (.int .i64 (((i : Nat) : Int) : Int)) hR rfl (by kernel_rfl) rfl (by kernel_rfl) (fun w _ => by kernel_rfl) ((hE.cell d2)) ?_
        refine wd_take 3 (.pointer (some ⟨sb, so + i * 2, none⟩)) hR rfl (by kernel_rfl) rfl (by kernel_rfl) (fun w _ => ex_index (p := .slice (some ⟨sb, so, none⟩) n c) (i := .int .i64 ((i : Nat) : Int)) rfl (by kernel_rfl) (by kernel_rfl) (ix26 (k := i) (by omega))) ((hE.cell d2)) ?_
        refine wd_take 4 (.pointer (some ⟨sb, so + i * 2 + 1, none⟩)) hR rfl (by kernel_rfl) rfl (by kernel_rfl) (fun w _ => by kernel_rfl) ((hE.cell d2)) ?_
        refine wd_take 5 (.agg #[.slice (some ⟨S2, s2, none⟩) 24 e2']) hR rfl (by kernel_rfl) rfl (by kernel_rfl) (fun w hS => ex_load rfl (by kernel_rfl) (ld25 (hS))) ((hE.cell d2)) ?_
        refine wd_step 0 hR rfl (by kernel_rfl) (by kernel_rfl) (by kernel_rfl) (sn_eff (v := .agg #[.slice (some ⟨BA, 0, none⟩) 24 kA]) (w' := X154) (ex_load rfl (by kernel_rfl) (ld25 (bO33_0.1))) ⟨(hE.cell d2), ?_⟩)
        refine wd_step 6 hR rfl (by kernel_rfl) (by kernel_rfl) (by kernel_rfl) (sn_call (f := 45) (args := #[.agg #[.slice (some ⟨BA, 0, none⟩) 24 kA], .agg #[.slice (some ⟨S2, s2, none⟩) 24 e2']]) (by kernel_rfl) ((less16_v _ _ _ vA (Ext.refl _) (g2.ext hE) (Ext.refl _)).mono ?_))
        rintro e w160 ⟨B156, k157, rfl, hn159, v158, hb⟩
        replace hE := hE.trans hb
        replace bO1_0 := BoxAt.ext hb bO1_0
        replace bO5_0 := BoxAt.ext hb bO5_0
        replace bO9_0 := BoxAt.ext hb bO9_0
        replace v22 := v22.ext hb
        replace v88 := v88.ext hb
        replace bO33_0 := BoxAt.ext hb bO33_0
        replace vA := vA.ext hb
        replace bO99_0 := BoxAt.ext hb bO99_0
        replace vB := vB.ext hb
        have hs161 := hb.size
        clear hb
        have lt162 := v158.lt
        refine ⟨_, rfl, (hE.cell d2), ?_⟩
        refine wd_step 7 hR rfl (by kernel_rfl) (by kernel_rfl) (by kernel_rfl) (sn_set (O := O33) (j := 0) (v := .slice (some ⟨B156, 0, none⟩) 24 k157) (ex_store (p := .pointer (some ⟨O33, 0, none⟩)) (v := .agg #[.slice (some ⟨B156, 0, none⟩) 24 k157]) rfl (by kernel_rfl) (by kernel_rfl) (st25 bO33_0.1 bO33_0.2)) bO33_0 ?_)
        intro X163 ho hv0 hk
        replace hE := ho.ext hE (Nat.le_trans (Nat.le_trans hs3 (Nat.le_trans hs7 (Nat.le_trans hs11 (Nat.le_trans hs14 hs16)))) hn76)
        replace bO1_0 := ho.box (Nat.ne_of_gt (Nat.lt_of_lt_of_le lt4 (Nat.le_trans (Nat.le_trans hs7 (Nat.le_trans hs11 (Nat.le_trans hs14 hs16))) hn76))) bO1_0
        replace bO5_0 := ho.box (Nat.ne_of_gt (Nat.lt_of_lt_of_le lt8 (Nat.le_trans (Nat.le_trans hs11 (Nat.le_trans hs14 hs16)) hn76))) bO5_0
        replace bO9_0 := ho.box (Nat.ne_of_gt (Nat.lt_of_lt_of_le lt12 (Nat.le_trans (Nat.le_trans hs14 hs16) hn76))) bO9_0
        replace v22 := ho.va (Ne.symm hn78.out) v22
        replace v88 := ho.va (Nat.ne_of_lt (Nat.lt_of_lt_of_le lt82 hn140)) v88
        replace vA := ho.va hneO33BA.out vA
        replace bO99_0 := ho.box (Nat.ne_of_lt (Nat.lt_of_lt_of_le lt82 hn142)) bO99_0
        replace vB := ho.va hneO33BB.out vB
        replace v158 := ho.va (Nat.ne_of_lt (Nat.lt_of_lt_of_le lt82 (Nat.le_trans (Nat.le_trans hn139 (Nat.le_trans hs149 hs155)) hn159))) v158
        have hs164 : w160.heap.size ≤ X163.heap.size := Nat.le_of_eq ho.size.symm
        clear ho hk bO33_0
        have bO33_0 := hv0; clear hv0
        refine ⟨(hE.cell d2), ?_⟩
        refine wd_end hL hR hK (by kernel_rfl) ?_
        refine qw_then ?_
        refine cw_clean [1, 4, 5, 7, 8, 9] (ws' := [(1, .slice (some ⟨sb, so, none⟩) n c), (4, .pointer (some ⟨O5, 0, none⟩)), (5, .pointer (some ⟨O9, 0, none⟩)), (7, .pointer (some ⟨O33, 0, none⟩)), (8, .pointer (some ⟨O99, 0, none⟩)), (9, .int .i64 (((i : Nat) : Int) : Int))]) (by kernel_rfl) (fun L => ?_)
        refine cw_draw [(some 39, [8], []), (some 40, [1], []), (some 41, [9], []), (some 42, [40, 41], [1, 2]), (some 43, [42], [3]), (some 44, [43], [4]), (some 45, [39, 44], [0, 5]), (none, [8, 45], [6, 6, 0, 1, 2, 3, 4, 5, 6])] (fun w' => w'.cell? ⟨sb, so + i * 2, none⟩ = some (.slice (some ⟨S1, s1, none⟩) 24 e1')) (by kernel_rfl) (by kernel_rfl) (by kernel_rfl) (by kernel_rfl) ((calm_block (calm_then (calm_then (calm_block (calm_then calm_body)))))) ((hE.cell d1)) (fun ops Q X165 hb hL hR hK => ?_)
        replace hE := hE.trans hb
        replace bO1_0 := BoxAt.ext hb bO1_0
        replace bO5_0 := BoxAt.ext hb bO5_0
        replace bO9_0 := BoxAt.ext hb bO9_0
        replace v22 := v22.ext hb
        replace v88 := v88.ext hb
        replace vA := vA.ext hb
        replace bO99_0 := BoxAt.ext hb bO99_0
        replace vB := vB.ext hb
        replace v158 := v158.ext hb
        replace bO33_0 := BoxAt.ext hb bO33_0
        have hs166 := hb.size
        clear hb
        refine wd_take 1 (.slice (some ⟨sb, so, none⟩) n c) hR rfl (by kernel_rfl) rfl (by kernel_rfl) (fun w _ => by kernel_rfl) ((hE.cell d1)) ?_
        refine wd_take 2 (.int .i64 (((i : Nat) : Int) : Int)) hR rfl (by kernel_rfl) rfl (by kernel_rfl) (fun w _ => by kernel_rfl) ((hE.cell d1)) ?_
        refine wd_take 3 (.pointer (some ⟨sb, so + i * 2, none⟩)) hR rfl (by kernel_rfl) rfl (by kernel_rfl) (fun w _ => ex_index (p := .slice (some ⟨sb, so, none⟩) n c) (i := .int .i64 ((i : Nat) : Int)) rfl (by kernel_rfl) (by kernel_rfl) (ix26 (k := i) (by omega))) ((hE.cell d1)) ?_
        refine wd_take 4 (.pointer (some ⟨sb, so + i * 2, none⟩)) hR rfl (by kernel_rfl) rfl (by kernel_rfl) (fun w _ => by kernel_rfl) ((hE.cell d1)) ?_
        refine wd_take 5 (.agg #[.slice (some ⟨S1, s1, none⟩) 24 e1']) hR rfl (by kernel_rfl) rfl (by kernel_rfl) (fun w hS => ex_load rfl (by kernel_rfl) (ld25 (hS))) ((hE.cell d1)) ?_
        refine wd_step 0 hR rfl (by kernel_rfl) (by kernel_rfl) (by kernel_rfl) (sn_eff (v := .agg #[.slice (some ⟨BB, 0, none⟩) 24 kB]) (w' := X165) (ex_load rfl (by kernel_rfl) (ld25 (bO99_0.1))) ⟨(hE.cell d1), ?_⟩)
        refine wd_step 6 hR rfl (by kernel_rfl) (by kernel_rfl) (by kernel_rfl) (sn_call (f := 45) (args := #[.agg #[.slice (some ⟨BB, 0, none⟩) 24 kB], .agg #[.slice (some ⟨S1, s1, none⟩) 24 e1']]) (by kernel_rfl) ((less16_v _ _ _ vB (Ext.refl _) (g1.ext hE) (Ext.refl _)).mono ?_))
        rintro e w171 ⟨B167, k168, rfl, hn170, v169, hb⟩
        replace hE := hE.trans hb
        replace bO1_0 := BoxAt.ext hb bO1_0
        replace bO5_0 := BoxAt.ext hb bO5_0
        replace bO9_0 := BoxAt.ext hb bO9_0
        replace v22 := v22.ext hb
        replace v88 := v88.ext hb
        replace vA := vA.ext hb
        replace bO99_0 := BoxAt.ext hb bO99_0
        replace vB := vB.ext hb
        replace v158 := v158.ext hb
        replace bO33_0 := BoxAt.ext hb bO33_0
        have hs172 := hb.size
        clear hb
        have lt173 := v169.lt
        refine ⟨_, rfl, (hE.cell d1), ?_⟩
        refine wd_step 7 hR rfl (by kernel_rfl) (by kernel_rfl) (by kernel_rfl) (sn_set (O := O99) (j := 0) (v := .slice (some ⟨B167, 0, none⟩) 24 k168) (ex_store (p := .pointer (some ⟨O99, 0, none⟩)) (v := .agg #[.slice (some ⟨B167, 0, none⟩) 24 k168]) rfl (by kernel_rfl) (by kernel_rfl) (st25 bO99_0.1 bO99_0.2)) bO99_0 ?_)
        intro X174 ho hv0 hk
        replace hE := ho.ext hE (Nat.le_trans (Nat.le_trans hs3 (Nat.le_trans hs7 (Nat.le_trans hs11 (Nat.le_trans hs14 (Nat.le_trans hs16 hn73))))) hn142)
        replace bO1_0 := ho.box (Nat.ne_of_gt (Nat.lt_of_lt_of_le lt4 (Nat.le_trans (Nat.le_trans hs7 (Nat.le_trans hs11 (Nat.le_trans hs14 (Nat.le_trans hs16 hn73)))) hn142))) bO1_0
        replace bO5_0 := ho.box (Nat.ne_of_gt (Nat.lt_of_lt_of_le lt8 (Nat.le_trans (Nat.le_trans hs11 (Nat.le_trans hs14 (Nat.le_trans hs16 hn73))) hn142))) bO5_0
        replace bO9_0 := ho.box (Nat.ne_of_gt (Nat.lt_of_lt_of_le lt12 (Nat.le_trans (Nat.le_trans hs14 (Nat.le_trans hs16 hn73)) hn142))) bO9_0
        replace v22 := ho.va (Nat.ne_of_gt (Nat.lt_of_lt_of_le lt80 hn142)) v22
        replace v88 := ho.va (Ne.symm hn144.out) v88
        replace vA := ho.va hneO99BA.out vA
        replace vB := ho.va hneO99BB.out vB
        replace v158 := ho.va (Nat.ne_of_lt (Nat.lt_of_lt_of_le lt148 (Nat.le_trans (Nat.le_trans hs149 hs155) hn159))) v158
        replace bO33_0 := ho.box (Nat.ne_of_gt (Nat.lt_of_lt_of_le lt82 hn142)) bO33_0
        replace v169 := ho.va (Nat.ne_of_lt (Nat.lt_of_lt_of_le lt148 (Nat.le_trans (Nat.le_trans hs149 (Nat.le_trans hs155 (Nat.le_trans hs161 (Nat.le_trans hs164 hs166)))) hn170))) v169
        have hs175 : w171.heap.size ≤ X174.heap.size := Nat.le_of_eq ho.size.symm
        clear ho hk bO99_0
        have bO99_0 := hv0; clear hv0
        refine ⟨(hE.cell d1), ?_⟩
        refine wd_end hL hR hK (by kernel_rfl) ?_
        refine qw_block ?_
        refine qw_then ?_
        refine cw_plain ?_
        refine pl_take (.int .i64 (((i : Nat) : Int) : Int)) rfl (by kernel_rfl) (by kernel_rfl) (by kernel_rfl) (by kernel_rfl) ?_
        refine pl_take (.int .i64 (((i + 1 : Nat) : Int) : Int)) rfl (by kernel_rfl) (by kernel_rfl) (by kernel_rfl) (ev_wrap (by kernel_rfl) (by omega) (by omega)) ?_
        refine pl_take (.int .i64 (((i + 1 : Nat) : Int) : Int)) rfl (by kernel_rfl) (by kernel_rfl) (by kernel_rfl) (by kernel_rfl) ?_
        refine pl_nil ?_
        refine qw_round [1, 4, 5, 7, 8, 9] (ws' := [(1, .slice (some ⟨sb, so, none⟩) n c), (4, .pointer (some ⟨O5, 0, none⟩)), (5, .pointer (some ⟨O9, 0, none⟩)), (7, .pointer (some ⟨O33, 0, none⟩)), (8, .pointer (some ⟨O99, 0, none⟩)), (9, .int .i64 (((i + 1 : Nat) : Int) : Int))]) (by kernel_rfl) _ ?_ ⟨(i + 1), B156, k157, B167, k168, rfl, rfl, (Nat.le_trans hs149 (Nat.le_trans hs155 (Nat.le_trans hs161 (Nat.le_trans hs164 (Nat.le_trans hs166 (Nat.le_trans hs172 hs175)))))), hE, bO1_0, bO5_0, bO9_0, v22, v88, bO33_0, (by rw [hl2]; exact v158), bO99_0, (by rw [hl1]; exact v169), by omega, Lib.hid (Nat.ne_of_lt (Nat.lt_of_lt_of_le lt82 (Nat.le_trans (Nat.le_trans hn139 (Nat.le_trans hs149 hs155)) hn159))), Lib.hid (Nat.ne_of_lt (Nat.lt_of_lt_of_le lt82 (Nat.le_trans (Nat.le_trans hn139 (Nat.le_trans hs149 (Nat.le_trans hs155 (Nat.le_trans hs161 (Nat.le_trans hs164 hs166))))) hn170))), Lib.hid (Nat.ne_of_lt (Nat.lt_of_lt_of_le lt148 (Nat.le_trans (Nat.le_trans hs149 hs155) hn159))), Lib.hid (Nat.ne_of_lt (Nat.lt_of_lt_of_le lt148 (Nat.le_trans (Nat.le_trans hs149 (Nat.le_trans hs155 (Nat.le_trans hs161 (Nat.le_trans hs164 hs166)))) hn170))), Lib.hid (Nat.ne_of_lt (Nat.lt_of_lt_of_le lt8 (Nat.le_trans (Nat.le_trans hs11 (Nat.le_trans hs14 (Nat.le_trans hs16 (Nat.le_trans hn73 (Nat.le_trans hn139 (Nat.le_trans hs149 hs155)))))) hn159))), Lib.hid (Nat.ne_of_lt (Nat.lt_of_lt_of_le lt8 (Nat.le_trans (Nat.le_trans hs11 (Nat.le_trans hs14 (Nat.le_trans hs16 (Nat.le_trans hn73 (Nat.le_trans hn139 (Nat.le_trans hs149 (Nat.le_trans hs155 (Nat.le_trans hs161 (Nat.le_trans hs164 hs166))))))))) hn170))), Lib.hid (Nat.ne_of_lt (Nat.lt_of_lt_of_le lt12 (Nat.le_trans (Nat.le_trans hs14 (Nat.le_trans hs16 (Nat.le_trans hn73 (Nat.le_trans hn139 (Nat.le_trans hs149 hs155))))) hn159))), Lib.hid (Nat.ne_of_lt (Nat.lt_of_lt_of_le lt12 (Nat.le_trans (Nat.le_trans hs14 (Nat.le_trans hs16 (Nat.le_trans hn73 (Nat.le_trans hn139 (Nat.le_trans hs149 (Nat.le_trans hs155 (Nat.le_trans hs161 (Nat.le_trans hs164 hs166)))))))) hn170)))⟩
        omega
      ·
        have hin : i = n := by omega
        rw [hin, List.take_of_length_le (by rw [List.length_map, hln]; exact Nat.le_refl _)] at vB
        rw [hin, List.take_of_length_le (by rw [List.length_map, hln]; exact Nat.le_refl _)] at vA
        refine cw_seq ?_
        refine cw_seq ?_
        refine cw_plain ?_
        refine pl_take (.int .i64 (((i : Nat) : Int) : Int)) rfl (by kernel_rfl) (by kernel_rfl) (by kernel_rfl) (by kernel_rfl) ?_
        refine pl_take (.slice a n c) rfl (by kernel_rfl) (by kernel_rfl) (by kernel_rfl) (by kernel_rfl) ?_
        refine pl_take (.int .i64 (((n : Nat) : Int) : Int)) rfl (by kernel_rfl) (by kernel_rfl) (by kernel_rfl) (by kernel_rfl) ?_
        refine pl_take (.bool false) rfl (by kernel_rfl) (by kernel_rfl) (by kernel_rfl) (ev_ndec (show _ = Result.ok (Next.value (Value.bool (decide ((((i : Nat) : Int) : Int) < (((n : Nat) : Int) : Int))))) _ from by kernel_rfl) (by omega)) ?_
        refine pl_nil ?_
        refine qw_then ?_
        refine cw_f (by kernel_rfl) ?_
        refine cw_exit ?_
        refine qw_then_exit ?_
        refine qw_then_exit ?_
        refine qw_block_out ?_
        refine qw_then ?_
        refine cw_seq ?_
        refine cw_draw [(some 46, [7], []), (some 47, [8], []), (none, [4, 46], [0, 0]), (none, [5, 47], [1, 2, 0, 1, 2]), (some 6, [], [3, 0, 1, 2, 3])] (fun w' => w'.cell? ⟨O33, 0, none⟩ = some (.slice (some ⟨BA, 0, none⟩) 24 kA) ∧ w'.cell? ⟨O99, 0, none⟩ = some (.slice (some ⟨BB, 0, none⟩) 24 kB)) (by kernel_rfl) (by kernel_rfl) (by kernel_rfl) (by kernel_rfl) ((calm_then calm_body)) (⟨bO33_0.1, bO99_0.1⟩) (fun ops Q X176 hb hL hR hK => ?_)
        replace hE := hE.trans hb
        replace bO1_0 := BoxAt.ext hb bO1_0
        replace bO5_0 := BoxAt.ext hb bO5_0
        replace bO9_0 := BoxAt.ext hb bO9_0
        replace v22 := v22.ext hb
        replace v88 := v88.ext hb
        replace bO33_0 := BoxAt.ext hb bO33_0
        replace vA := vA.ext hb
        replace bO99_0 := BoxAt.ext hb bO99_0
        replace vB := vB.ext hb
        have hs177 := hb.size
        clear hb
        refine wd_take 0 (.agg #[.slice (some ⟨BA, 0, none⟩) 24 kA]) hR rfl (by kernel_rfl) rfl (by kernel_rfl) (fun w hS => ex_load rfl (by kernel_rfl) (ld25 (hS.1))) (⟨bO33_0.1, bO99_0.1⟩) ?_
        refine wd_take 1 (.agg #[.slice (some ⟨BB, 0, none⟩) 24 kB]) hR rfl (by kernel_rfl) rfl (by kernel_rfl) (fun w hS => ex_load rfl (by kernel_rfl) (ld25 (hS.2))) (⟨bO33_0.1, bO99_0.1⟩) ?_
        refine wd_step 2 hR rfl (by kernel_rfl) (by kernel_rfl) (by kernel_rfl) (sn_set (O := O5) (j := 0) (v := .slice (some ⟨BA, 0, none⟩) 24 kA) (ex_store (p := .pointer (some ⟨O5, 0, none⟩)) (v := .agg #[.slice (some ⟨BA, 0, none⟩) 24 kA]) rfl (by kernel_rfl) (by kernel_rfl) (st25 bO5_0.1 bO5_0.2)) bO5_0 ?_)
        intro X178 ho hv0 hk
        replace hE := ho.ext hE (Nat.le_trans hs3 (Nat.le_of_eq hzO5))
        replace bO1_0 := ho.box (Nat.ne_of_gt (Nat.lt_of_lt_of_le lt4 (Nat.le_of_eq hzO5))) bO1_0
        replace bO9_0 := ho.box (Nat.ne_of_lt (Nat.lt_of_lt_of_le lt8 (Nat.le_of_eq hzO9))) bO9_0
        replace v22 := ho.va (Nat.ne_of_lt (Nat.lt_of_lt_of_le lt8 (Nat.le_trans (Nat.le_trans hs11 (Nat.le_trans hs14 hs16)) hn74))) v22
        replace v88 := ho.va (Nat.ne_of_lt (Nat.lt_of_lt_of_le lt8 (Nat.le_trans (Nat.le_trans hs11 (Nat.le_trans hs14 (Nat.le_trans hs16 hn73))) hn140))) v88
        replace bO33_0 := ho.box (Nat.ne_of_lt (Nat.lt_of_lt_of_le lt8 (Nat.le_trans (Nat.le_trans hs11 (Nat.le_trans hs14 hs16)) hn76))) bO33_0
        replace vA := ho.va hneO5BA.out vA
        replace bO99_0 := ho.box (Nat.ne_of_lt (Nat.lt_of_lt_of_le lt8 (Nat.le_trans (Nat.le_trans hs11 (Nat.le_trans hs14 (Nat.le_trans hs16 hn73))) hn142))) bO99_0
        replace vB := ho.va hneO5BB.out vB
        have hs179 : X176.heap.size ≤ X178.heap.size := Nat.le_of_eq ho.size.symm
        clear ho hk bO5_0
        have bO5_0 := hv0; clear hv0
        refine ⟨⟨bO33_0.1, bO99_0.1⟩, ?_⟩
        refine wd_step 3 hR rfl (by kernel_rfl) (by kernel_rfl) (by kernel_rfl) (sn_set (O := O9) (j := 0) (v := .slice (some ⟨BB, 0, none⟩) 24 kB) (ex_store (p := .pointer (some ⟨O9, 0, none⟩)) (v := .agg #[.slice (some ⟨BB, 0, none⟩) 24 kB]) rfl (by kernel_rfl) (by kernel_rfl) (st25 bO9_0.1 bO9_0.2)) bO9_0 ?_)
        intro X180 ho hv0 hk
        replace hE := ho.ext hE (Nat.le_trans (Nat.le_trans hs3 hs7) (Nat.le_of_eq hzO9))
        replace bO1_0 := ho.box (Nat.ne_of_gt (Nat.lt_of_lt_of_le lt4 (Nat.le_trans hs7 (Nat.le_of_eq hzO9)))) bO1_0
        replace v22 := ho.va (Nat.ne_of_lt (Nat.lt_of_lt_of_le lt12 (Nat.le_trans (Nat.le_trans hs14 hs16) hn74))) v22
        replace v88 := ho.va (Nat.ne_of_lt (Nat.lt_of_lt_of_le lt12 (Nat.le_trans (Nat.le_trans hs14 (Nat.le_trans hs16 hn73)) hn140))) v88
        replace bO33_0 := ho.box (Nat.ne_of_lt (Nat.lt_of_lt_of_le lt12 (Nat.le_trans (Nat.le_trans hs14 hs16) hn76))) bO33_0
        replace vA := ho.va hneO9BA.out vA
        replace bO99_0 := ho.box (Nat.ne_of_lt (Nat.lt_of_lt_of_le lt12 (Nat.le_trans (Nat.le_trans hs14 (Nat.le_trans hs16 hn73)) hn142))) bO99_0
        replace vB := ho.va hneO9BB.out vB
        replace bO5_0 := ho.box (Nat.ne_of_gt (Nat.lt_of_lt_of_le lt8 (Nat.le_of_eq hzO9))) bO5_0
        have hs181 : X178.heap.size ≤ X180.heap.size := Nat.le_of_eq ho.size.symm
        clear ho hk bO9_0
        have bO9_0 := hv0; clear hv0
        refine ⟨⟨bO33_0.1, bO99_0.1⟩, ?_⟩
        refine wd_take 4 (.int .i64 0) hR rfl (by kernel_rfl) rfl (by kernel_rfl) (fun w _ => by kernel_rfl) (⟨bO33_0.1, bO99_0.1⟩) ?_
        refine wd_end hL hR hK (by kernel_rfl) ?_
        refine qw_then ?_
        refine cw_ret ?_
        refine qw_ret [.agg #[.slice (some ⟨BA, 0, none⟩) 24 kA], .agg #[.slice (some ⟨BB, 0, none⟩) 24 kB], .int .i64 0] rfl ⟨⟨_, by kernel_rfl, res_ld (ld25 (bO5_0.1))⟩, ⟨_, by kernel_rfl, res_ld (ld25 (bO9_0.1))⟩, (by kernel_rfl), trivial⟩ ?_
        exact ⟨_, _, _, _, _, _, rfl, vA, vB, hE⟩
set_option maxRecDepth 1000000 in
set_option maxHeartbeats 4000000 in
theorem rUncovered_n {w1 w2 : World} {a : Option Addr} {n : Nat} {ss : List (List Int × List Int)} {a1 : Option Addr} {n1 : Nat} {l : List Int} {v : Bool} (c k : Nat) (w : World) (hl : AA w1 a1 l n1 v) (e1 : Ext w1 w) (h : StripsAt w2 a n ss) (e2 : Ext w2 w) (hno : (v && Globe.stripsOk ss) = false) :
    Calls Tryd.prog 16 #[.agg #[.slice a1 n1 k], .slice a n c] w (UncErr w) := by
  have hA := hl.ext e1; have hS := h.ext e2; have hln := h.1; have hnb := h.2.1
  refine calls_cw 48 [(1, .slice a n c), (0, .agg #[.slice a1 n1 k])] Tryd.func16 rfl Tryd.ntmps16 (by kernel_rfl) (by kernel_rfl) (fun L => ?_)
  have hE : Ext w w := Ext.refl w
  refine cw_seq ?_
  refine cw_plain ?_
  refine pl_step rfl (by kernel_rfl) (by kernel_rfl) (by kernel_rfl) (sn_new (us := #[.slice a1 n1 k]) (t := 25) (by kernel_rfl) ?_)
  intro O1 X2 hO hOs hb hbx
  have hzO1 := hO; have hyO1 := hOs; clear hO hOs
  have bO1_0 : BoxAt X2 O1 0 (.slice a1 n1 k) := hbx 0 _ rfl
  clear hbx
  replace hE := hE.trans hb
  have hs3 := hb.size
  clear hb
  have lt4 := bO1_0.lt
  refine pl_step rfl (by kernel_rfl) (by kernel_rfl) (by kernel_rfl) (sn_new (us := #[.slice none 0 0]) (t := 25) (by kernel_rfl) ?_)
  intro O5 X6 hO hOs hb hbx
  have hzO5 := hO; have hyO5 := hOs; clear hO hOs
  have bO5_0 : BoxAt X6 O5 0 (.slice none 0 0) := hbx 0 _ rfl
  clear hbx
  replace hE := hE.trans hb
  replace bO1_0 := BoxAt.ext hb bO1_0
  have hs7 := hb.size
  clear hb
  have lt8 := bO5_0.lt
  refine pl_step rfl (by kernel_rfl) (by kernel_rfl) (by kernel_rfl) (sn_new (us := #[.slice none 0 0]) (t := 25) (by kernel_rfl) ?_)
  intro O9 X10 hO hOs hb hbx
  have hzO9 := hO; have hyO9 := hOs; clear hO hOs
  have bO9_0 : BoxAt X10 O9 0 (.slice none 0 0) := hbx 0 _ rfl
  clear hbx
  replace hE := hE.trans hb
  replace bO1_0 := BoxAt.ext hb bO1_0
  replace bO5_0 := BoxAt.ext hb bO5_0
  have hs11 := hb.size
  clear hb
  have lt12 := bO9_0.lt
  refine pl_take (.int .i64 0) rfl (by kernel_rfl) (by kernel_rfl) (by kernel_rfl) (by kernel_rfl) ?_
  refine pl_nil ?_
  refine qw_then ?_
  refine cw_seq ?_
  refine cw_seq ?_
  rcases b2 _ _ hno with rfl | ⟨rfl, hok⟩
  ·
    refine cw_plain ?_
    refine pl_take (.agg #[.slice a1 n1 k]) rfl (by kernel_rfl) (by kernel_rfl) (by kernel_rfl) (ex_load rfl (by kernel_rfl) (ld25 (bO1_0.1))) ?_
    refine pl_step rfl (by kernel_rfl) (by kernel_rfl) (by kernel_rfl) (sn_call (f := 44) (args := #[.agg #[.slice a1 n1 k]]) (by kernel_rfl) ((rValid_c _ _ hA hE).mono ?_))
    rintro e w13 ⟨rfl, hb⟩
    replace hE := hE.trans hb
    replace bO1_0 := BoxAt.ext hb bO1_0
    replace bO5_0 := BoxAt.ext hb bO5_0
    replace bO9_0 := BoxAt.ext hb bO9_0
    have hs14 := hb.size
    clear hb
    refine ⟨_, rfl, ?_⟩
    refine pl_take (.bool true) rfl (by kernel_rfl) (by kernel_rfl) (by kernel_rfl) (by kernel_rfl) ?_
    refine pl_take (.bool true) rfl (by kernel_rfl) (by kernel_rfl) (by kernel_rfl) (by kernel_rfl) ?_
    refine pl_skip rfl (by kernel_rfl) (by kernel_rfl) (by kernel_rfl) ?_
    refine pl_skip rfl (by kernel_rfl) (by kernel_rfl) (by kernel_rfl) ?_
    refine pl_skip rfl (by kernel_rfl) (by kernel_rfl) (by kernel_rfl) ?_
    refine pl_take (.bool true) rfl (by kernel_rfl) (by kernel_rfl) (by kernel_rfl) (by kernel_rfl) ?_
    refine pl_nil ?_
    refine qw_then ?_
    refine cw_t (by kernel_rfl) ?_
    refine cw_seq ?_
    refine cw_plain ?_
    refine pl_take (.agg #[.slice none 0 0]) rfl (by kernel_rfl) (by kernel_rfl) (by kernel_rfl) (by kernel_rfl) ?_
    refine pl_take (.agg #[.slice none 0 0]) rfl (by kernel_rfl) (by kernel_rfl) (by kernel_rfl) (by kernel_rfl) ?_
    refine pl_put rfl (by kernel_rfl) (by kernel_rfl) (sn_set (O := O5) (j := 0) (v := .slice none 0 0) (ex_store (p := .pointer (some ⟨O5, 0, none⟩)) (v := .agg #[.slice none 0 0]) rfl (by kernel_rfl) (by kernel_rfl) (st25 bO5_0.1 bO5_0.2)) bO5_0 ?_)
    intro X15 ho hv0 hk
    replace hE := ho.ext hE (Nat.le_trans hs3 (Nat.le_of_eq hzO5))
    replace bO1_0 := ho.box (Nat.ne_of_gt (Nat.lt_of_lt_of_le lt4 (Nat.le_of_eq hzO5))) bO1_0
    replace bO9_0 := ho.box (Nat.ne_of_lt (Nat.lt_of_lt_of_le lt8 (Nat.le_of_eq hzO9))) bO9_0
    have hs16 : w13.heap.size ≤ X15.heap.size := Nat.le_of_eq ho.size.symm
    clear ho hk bO5_0
    have bO5_0 := hv0; clear hv0
    refine pl_put rfl (by kernel_rfl) (by kernel_rfl) (sn_set (O := O9) (j := 0) (v := .slice none 0 0) (ex_store (p := .pointer (some ⟨O9, 0, none⟩)) (v := .agg #[.slice none 0 0]) rfl (by kernel_rfl) (by kernel_rfl) (st25 bO9_0.1 bO9_0.2)) bO9_0 ?_)
    intro X17 ho hv0 hk
    replace hE := ho.ext hE (Nat.le_trans (Nat.le_trans hs3 hs7) (Nat.le_of_eq hzO9))
    replace bO1_0 := ho.box (Nat.ne_of_gt (Nat.lt_of_lt_of_le lt4 (Nat.le_trans hs7 (Nat.le_of_eq hzO9)))) bO1_0
    replace bO5_0 := ho.box (Nat.ne_of_gt (Nat.lt_of_lt_of_le lt8 (Nat.le_of_eq hzO9))) bO5_0
    have hs18 : X15.heap.size ≤ X17.heap.size := Nat.le_of_eq ho.size.symm
    clear ho hk bO9_0
    have bO9_0 := hv0; clear hv0
    refine pl_take (.int .i64 160) rfl (by kernel_rfl) (by kernel_rfl) (by kernel_rfl) (by kernel_rfl) ?_
    refine pl_nil ?_
    refine qw_then ?_
    refine cw_clean [4, 5, 6] (ws' := [(4, .pointer (some ⟨O5, 0, none⟩)), (5, .pointer (some ⟨O9, 0, none⟩)), (6, .int .i64 160)]) (by kernel_rfl) (fun L => ?_)
    refine cw_ret ?_
    refine qw_then_ret ?_
    refine qw_ret [.agg #[.slice none 0 0], .agg #[.slice none 0 0], .int .i64 160] rfl ⟨⟨_, by kernel_rfl, res_ld (ld25 (bO5_0.1))⟩, ⟨_, by kernel_rfl, res_ld (ld25 (bO9_0.1))⟩, (by kernel_rfl), trivial⟩ ?_
    exact ⟨rfl, hE⟩
  ·
    refine cw_plain ?_
    refine pl_take (.agg #[.slice a1 n1 k]) rfl (by kernel_rfl) (by kernel_rfl) (by kernel_rfl) (ex_load rfl (by kernel_rfl) (ld25 (bO1_0.1))) ?_
    refine pl_step rfl (by kernel_rfl) (by kernel_rfl) (by kernel_rfl) (sn_call (f := 44) (args := #[.agg #[.slice a1 n1 k]]) (by kernel_rfl) ((rValid_c _ _ hA hE).mono ?_))
    rintro e w19 ⟨rfl, hb⟩
    replace hE := hE.trans hb
    replace bO1_0 := BoxAt.ext hb bO1_0
    replace bO5_0 := BoxAt.ext hb bO5_0
    replace bO9_0 := BoxAt.ext hb bO9_0
    have hs20 := hb.size
    clear hb
    refine ⟨_, rfl, ?_⟩
    refine pl_take (.bool false) rfl (by kernel_rfl) (by kernel_rfl) (by kernel_rfl) (by kernel_rfl) ?_
    refine pl_take (.bool false) rfl (by kernel_rfl) (by kernel_rfl) (by kernel_rfl) (by kernel_rfl) ?_
    refine pl_take (.slice a n c) rfl (by kernel_rfl) (by kernel_rfl) (by kernel_rfl) (by kernel_rfl) ?_
    refine pl_step rfl (by kernel_rfl) (by kernel_rfl) (by kernel_rfl) (sn_call (f := 20) (args := #[.slice a n c]) (by kernel_rfl) ((rValidS_r (r := false) _ _ hS hE (hok)).mono ?_))
    rintro e w21 ⟨rfl, hb⟩
    replace hE := hE.trans hb
    replace bO1_0 := BoxAt.ext hb bO1_0
    replace bO5_0 := BoxAt.ext hb bO5_0
    replace bO9_0 := BoxAt.ext hb bO9_0
    have hs22 := hb.size
    clear hb
    refine ⟨_, rfl, ?_⟩
    refine pl_take (.bool true) rfl (by kernel_rfl) (by kernel_rfl) (by kernel_rfl) (by kernel_rfl) ?_
    refine pl_take (.bool true) rfl (by kernel_rfl) (by kernel_rfl) (by kernel_rfl) (by kernel_rfl) ?_
    refine pl_nil ?_
    refine qw_then ?_
    refine cw_t (by kernel_rfl) ?_
    refine cw_seq ?_
    refine cw_plain ?_
    refine pl_take (.agg #[.slice none 0 0]) rfl (by kernel_rfl) (by kernel_rfl) (by kernel_rfl) (by kernel_rfl) ?_
    refine pl_take (.agg #[.slice none 0 0]) rfl (by kernel_rfl) (by kernel_rfl) (by kernel_rfl) (by kernel_rfl) ?_
    refine pl_put rfl (by kernel_rfl) (by kernel_rfl) (sn_set (O := O5) (j := 0) (v := .slice none 0 0) (ex_store (p := .pointer (some ⟨O5, 0, none⟩)) (v := .agg #[.slice none 0 0]) rfl (by kernel_rfl) (by kernel_rfl) (st25 bO5_0.1 bO5_0.2)) bO5_0 ?_)
    intro X23 ho hv0 hk
    replace hE := ho.ext hE (Nat.le_trans hs3 (Nat.le_of_eq hzO5))
    replace bO1_0 := ho.box (Nat.ne_of_gt (Nat.lt_of_lt_of_le lt4 (Nat.le_of_eq hzO5))) bO1_0
    replace bO9_0 := ho.box (Nat.ne_of_lt (Nat.lt_of_lt_of_le lt8 (Nat.le_of_eq hzO9))) bO9_0
    have hs24 : w21.heap.size ≤ X23.heap.size := Nat.le_of_eq ho.size.symm
    clear ho hk bO5_0
    have bO5_0 := hv0; clear hv0
    refine pl_put rfl (by kernel_rfl) (by kernel_rfl) (sn_set (O := O9) (j := 0) (v := .slice none 0 0) (ex_store (p := .pointer (some ⟨O9, 0, none⟩)) (v := .agg #[.slice none 0 0]) rfl (by kernel_rfl) (by kernel_rfl) (st25 bO9_0.1 bO9_0.2)) bO9_0 ?_)
    intro X25 ho hv0 hk
    replace hE := ho.ext hE (Nat.le_trans (Nat.le_trans hs3 hs7) (Nat.le_of_eq hzO9))
    replace bO1_0 := ho.box (Nat.ne_of_gt (Nat.lt_of_lt_of_le lt4 (Nat.le_trans hs7 (Nat.le_of_eq hzO9)))) bO1_0
    replace bO5_0 := ho.box (Nat.ne_of_gt (Nat.lt_of_lt_of_le lt8 (Nat.le_of_eq hzO9))) bO5_0
    have hs26 : X23.heap.size ≤ X25.heap.size := Nat.le_of_eq ho.size.symm
    clear ho hk bO9_0
    have bO9_0 := hv0; clear hv0
    refine pl_take (.int .i64 160) rfl (by kernel_rfl) (by kernel_rfl) (by kernel_rfl) (by kernel_rfl) ?_
    refine pl_nil ?_
    refine qw_then ?_
    refine cw_clean [4, 5, 6] (ws' := [(4, .pointer (some ⟨O5, 0, none⟩)), (5, .pointer (some ⟨O9, 0, none⟩)), (6, .int .i64 160)]) (by kernel_rfl) (fun L => ?_)
    refine cw_ret ?_
    refine qw_then_ret ?_
    refine qw_ret [.agg #[.slice none 0 0], .agg #[.slice none 0 0], .int .i64 160] rfl ⟨⟨_, by kernel_rfl, res_ld (ld25 (bO5_0.1))⟩, ⟨_, by kernel_rfl, res_ld (ld25 (bO9_0.1))⟩, (by kernel_rfl), trivial⟩ ?_
    exact ⟨rfl, hE⟩

end Go.Proofs.YtglfoglkdbbmmaaDoor

/- Contracts of the reference of package cover: Decompose. -/
namespace Go.Proofs.YtglfoglkdbbmmaaDoor
open Go.RowKit Go.Shelf

/-- Appending one element; what is not the list's block is as it was. -/
theorem own_app1k {α : Type} {R : Rep α} {P : Program} {t ty e : TypeId} {z : Value} {size bytes : Nat} (E : ElemT P t e z size bytes) {n₀ : Nat} {v : Value} {w : World} {l : List α} (h : OwnL R n₀ e size v w l) (hn : n₀ ≤ w.heap.size) {k : Nat} (hl : l.length = k)
    {O c : Nat} {x : α} {d : List Value} {F : List Nat} (hsz : d.length = size) (hcell : ∀ j u, d[j]? = some u → w.cell? ⟨O, j, none⟩ = some u) (h1 : ∀ u ∈ d, u.oneCell' = true)
    (hR : R.rel w d x F) (hF : ∀ b ∈ F, v.ownBlock ≠ some b) (hb : (k + 1) * bytes ≤ 140737488355328) (hmax : k + 1 ≤ 9223372036854775807) :
    ∃ g cap w', (Builtin.append_ #[t, t] ty #[v, .slice (some ⟨O, 0, none⟩) 1 c]).run P w = .ok (.slice (some ⟨g, 0, none⟩) (k + 1) cap) w' ∧ OwnL R n₀ e size (.slice (some ⟨g, 0, none⟩) (k + 1) cap) w' (l ++ [x]) ∧ Grew n₀ w w' ∧ w.grownBy w' v.ownBlock := by
  subst hl
  obtain ⟨cs, h2, h3, h4, h5⟩ := h
  obtain ⟨i, hi, hz0, hz1, hz2⟩ := info_parts E.info
  obtain ⟨v', w', hrun, hown, hg, hiff, hat⟩ := run_append_own_at (P := P) w n₀ t ty e i z size bytes E.under hi hz0 hz1 hz2 E.zs E.pos v l.length cs.flatten h4 ⟨O, 0, none⟩ 1 c d (by rw [hsz, Nat.one_mul]) (fun j u hj => by
    rw [Addr.add_mid, Nat.zero_add]; exact hcell j u hj) h1 (by unfold maxLen; exact hmax) hb hn
  have hnb : ∀ F : List Nat, (∀ b ∈ F, v.ownBlock ≠ some b) → (∀ b ∈ F, b < w.heap.size) → (∀ b ∈ F, v'.ownBlock ≠ some b) ∧ ∀ b ∈ F, ∀ o u, w.cell? ⟨b, o, none⟩ = some u → w'.cell? ⟨b, o, none⟩ = some u := by
    intro F hF hFl
    refine ⟨fun b hbF hv' => ?_, fun b hbF o u hu => hg.cell hu (fun e => hF b hbF e.symm)⟩
    rcases hat with e1 | e1
    · exact hF b hbF (by rw [← e1]; exact hv')
    · rw [e1] at hv'; cases hv'; have := hFl _ hbF; omega
  have hO : OwnL R n₀ e size v' w' (l ++ [x]) := ⟨cs ++ [d], by simp [h2], by
      intro y hy
      rcases List.mem_append.1 hy with hy | hy
      · exact h3 y hy
      · rw [List.mem_singleton.1 hy]; exact hsz, by rw [List.flatten_append, List.length_append]; simpa using hown, by
      intro j y c hx hc
      rcases Nat.lt_or_ge j l.length with hj | hj
      · rw [List.getElem?_append_left hj] at hx
        rw [List.getElem?_append_left (by rw [h2]; exact hj)] at hc
        obtain ⟨F, q1, q2⟩ := h5 j y c hx hc
        obtain ⟨k1, k2⟩ := hnb F q2 (R.lt q1)
        exact ⟨F, R.keep q1 k2, k1⟩
      · rw [List.getElem?_append_right hj] at hx
        rw [List.getElem?_append_right (by rw [h2]; exact hj), h2] at hc
        match hj' : j - l.length, hx, hc with
        | 0, hx, hc =>
          simp at hx hc; subst hx hc
          obtain ⟨k1, k2⟩ := hnb F hF (R.lt hR)
          exact ⟨F, R.keep hR k2, k1⟩
        | _ + 1, hx, _ => simp at hx⟩
  rcases hown.2 with ⟨q, _⟩ | ⟨g, cap, cur, q, _, _, q3, _⟩
  · have := (hiff.1 q).2; omega
  · subst q
    exact ⟨g, cap, w', hrun, hO, ⟨hg.size, fun U hU hUn => Ext.own' hU h4 hUn hg⟩, hg⟩
theorem OwnL.keepR {α : Type} {R : Rep α} {m n₀ : Nat} {e : TypeId} {size : Nat} {v : Value} {w w' : World} {l : List α} {O : Nat} (h : OwnL (freshR m R) n₀ e size v w l) (hg : w.grownBy w' (some O)) (h1 : O < n₀) (h2 : O < m) : OwnL (freshR m R) n₀ e size v w' l := by
  obtain ⟨cs, q1, q2, q3, q4⟩ := h
  exact ⟨cs, q1, q2, q3.kept hg (.inr (own_ne q3 h1)), fun j x c hx hc => by
    obtain ⟨F, k1, k2⟩ := q4 j x c hx hc
    exact ⟨F, (freshR m R).keep k1 (fun b hb o u hu => hg.cell hu (fun e => by have h9 : b = O := Option.some.inj e; have := k1.2 b hb; omega)), k2⟩⟩
/-- A cell that is stored to, and what the store leaves. -/
theorem sn_setG {P : Program} {ev : Operand → Value} {oi : Oper} {w : World} {N : Value → World → Prop} {O j : Nat} {u v : Value} (h1 : (execOp ev oi).run P w = .ok .skip (w.setCell ⟨O, j, none⟩ v)) (hO : BoxAt w O j u)
    (h : ∀ X, Turns O w X → BoxAt X O j v → w.grownBy X (some O) → N undef X) : StepN P ev oi w N :=
  sn_skp h1 (h _ (turns_set _ _ _ _) ⟨by have := hO.1; simp [go_sem, this], by have := hO.2; simpa [go_sem] using this⟩ (grown_set (p := ⟨O, j, none⟩) rfl (Below.refl _ _)))
theorem own_not {v : Value} {n b : Nat} (h : ∀ b, v.ownBlock = some b → n ≤ b) (hb : b < n) : v.ownBlock ≠ some b := fun e => by have := h b e; omega
theorem own_not2 {v : Value} {m b : Nat} (h : ∀ b, v.ownBlock = some b → b < m) (hb : m ≤ b) : v.ownBlock ≠ some b := fun e => by have := h b e; omega
def DecP (w : World) (n : Nat) (L : List Int) (Ss : List (List Int)) (e : Ending) (w' : World) : Prop :=
  ∃ (a : Option Addr) (c B o k : Nat), e = .returned (.tuple #[.slice a n c, .agg #[.slice (some ⟨B, o, none⟩) 24 k], .int .i64 0]) ∧ AreasAt w' a n (Globe.piecesL L Ss) ∧ VA w' B o (Globe.leftL L Ss) ∧ Ext w w'
set_option maxRecDepth 1000000 in
set_option maxHeartbeats 4000000 in
theorem rDecompose_v {w1 w2 : World} {a : Option Addr} {n : Nat} {ss : List (List Int × List Int)} {b o : Nat} (c k : Nat) {l : List Int} (w : World) (hl : VA w1 b o l) (e1 : Ext w1 w) (h : StripsAt w2 a n ss) (e2 : Ext w2 w) (hok : Globe.stripsOk ss = true) :
    Calls Tryd.prog 18 #[.agg #[.slice (some ⟨b, o, none⟩) 24 k], .slice a n c] w (DecP w n l (ss.map fun s => s.1)) := by
  have hA := hl.ext e1; have hS := h.ext e2; have hln := h.1; have hnb := h.2.1; have h24 : n ≤ 24 := by have := (Globe.stripsOk_t.1 hok).1; omega
  refine calls_cw 47 [(1, .slice a n c), (0, .agg #[.slice (some ⟨b, o, none⟩) 24 k])] Tryd.func18 rfl Tryd.ntmps18 (by kernel_rfl) (by kernel_rfl) (fun L => ?_)
  have hE : Ext w w := Ext.refl w
  refine cw_seq ?_
  refine cw_plain ?_
  refine pl_step rfl (by kernel_rfl) (by kernel_rfl) (by kernel_rfl) (sn_new (us := #[.slice (some ⟨b, o, none⟩) 24 k]) (t := 25) (by kernel_rfl) ?_)
  intro O1 X2 hO hOs hb hbx
  have hzO1 := hO; have hyO1 := hOs; clear hO hOs
  have bO1_0 : BoxAt X2 O1 0 (.slice (some ⟨b, o, none⟩) 24 k) := hbx 0 _ rfl
  clear hbx
  replace hE := hE.trans hb
  have hs3 := hb.size
  clear hb
  have lt4 := bO1_0.lt
  refine pl_take (.slice none 0 0) rfl (by kernel_rfl) (by kernel_rfl) (by kernel_rfl) (by kernel_rfl) ?_
  refine pl_step rfl (by kernel_rfl) (by kernel_rfl) (by kernel_rfl) (sn_new (us := #[.slice none 0 0]) (t := 25) (by kernel_rfl) ?_)
  intro O5 X6 hO hOs hb hbx
  have hzO5 := hO; have hyO5 := hOs; clear hO hOs
  have bO5_0 : BoxAt X6 O5 0 (.slice none 0 0) := hbx 0 _ rfl
  clear hbx
  replace hE := hE.trans hb
  replace bO1_0 := BoxAt.ext hb bO1_0
  have hs7 := hb.size
  clear hb
  have lt8 := bO5_0.lt
  refine pl_take (.int .i64 0) rfl (by kernel_rfl) (by kernel_rfl) (by kernel_rfl) (by kernel_rfl) ?_
  refine pl_nil ?_
  refine qw_then ?_
  refine cw_seq ?_
  refine cw_seq ?_
  refine cw_plain ?_
  refine pl_take (.agg #[.slice (some ⟨b, o, none⟩) 24 k]) rfl (by kernel_rfl) (by kernel_rfl) (by kernel_rfl) (ex_load rfl (by kernel_rfl) (ld25 (bO1_0.1))) ?_
  refine pl_step rfl (by kernel_rfl) (by kernel_rfl) (by kernel_rfl) (sn_call (f := 44) (args := #[.agg #[.slice (some ⟨b, o, none⟩) 24 k]]) (by kernel_rfl) ((rValid_c _ _ (hA.ext hE).aa (Ext.refl _)).mono ?_))
  rintro e w9 ⟨rfl, hb⟩
  replace hE := hE.trans hb
  replace bO1_0 := BoxAt.ext hb bO1_0
  replace bO5_0 := BoxAt.ext hb bO5_0
  have hs10 := hb.size
  clear hb
  refine ⟨_, rfl, ?_⟩
  refine pl_take (.bool false) rfl (by kernel_rfl) (by kernel_rfl) (by kernel_rfl) (by kernel_rfl) ?_
  refine pl_take (.bool false) rfl (by kernel_rfl) (by kernel_rfl) (by kernel_rfl) (by kernel_rfl) ?_
  refine pl_take (.slice a n c) rfl (by kernel_rfl) (by kernel_rfl) (by kernel_rfl) (by kernel_rfl) ?_
  refine pl_step rfl (by kernel_rfl) (by kernel_rfl) (by kernel_rfl) (sn_call (f := 20) (args := #[.slice a n c]) (by kernel_rfl) ((rValidS_r (r := true) _ _ hS hE (hok)).mono ?_))
  rintro e w11 ⟨rfl, hb⟩
  replace hE := hE.trans hb
  replace bO1_0 := BoxAt.ext hb bO1_0
  replace bO5_0 := BoxAt.ext hb bO5_0
  have hs12 := hb.size
  clear hb
  refine ⟨_, rfl, ?_⟩
  refine pl_take (.bool false) rfl (by kernel_rfl) (by kernel_rfl) (by kernel_rfl) (by kernel_rfl) ?_
  refine pl_take (.bool false) rfl (by kernel_rfl) (by kernel_rfl) (by kernel_rfl) (by kernel_rfl) ?_
  refine pl_nil ?_
  refine qw_then ?_
  refine cw_f (by kernel_rfl) ?_
  refine cw_skip ?_
  refine qw_then ?_
  refine cw_seq ?_
  refine cw_plain ?_
  refine pl_take (.slice none 0 0) rfl (by kernel_rfl) (by kernel_rfl) (by kernel_rfl) (by kernel_rfl) ?_
  refine pl_nil ?_
  refine qw_then ?_
  refine cw_clean [1, 2, 5, 7] (ws' := [(1, .slice a n c), (2, .pointer (some ⟨O1, 0, none⟩)), (5, .pointer (some ⟨O5, 0, none⟩)), (7, .slice none 0 0)]) (by kernel_rfl) (fun L => ?_)
  refine cw_seq ?_
  refine cw_join (fun ws' Y => ∃ B15 : Nat, ∃ B22 : Nat, ∃ k23 : Nat, ∃ O29 : Nat, ws' = [(1, .slice a n c), (5, .pointer (some ⟨O5, 0, none⟩)), (7, .slice none 0 0), (8, .pointer (some ⟨O29, 0, none⟩))] ∧ Ext w Y ∧ BoxAt Y O1 0 (.slice (some ⟨b, o, none⟩) 24 k) ∧ BoxAt Y O5 0 (.slice none 0 0) ∧ VA Y B15 0 Globe.zeroL ∧ VA Y B22 0 (Globe.lessL l Globe.zeroL) ∧ BoxAt Y O29 0 (.slice (some ⟨B22, 0, none⟩) 24 k23) ∧ w11.heap.size ≤ Y.heap.size ∧ w11.heap.size ≤ B15 ∧ w11.heap.size ≤ B22 ∧ w11.heap.size ≤ O29 ∧ Hid (B15 ≠ B22) ∧ Hid (B15 ≠ O29) ∧ Hid (B22 ≠ O29)) (fun hJ => ?_) ?_
  ·
    refine cw_draw [(some 19, [2], []), (some 20, [], []), (some 21, [19, 20], [0, 1, 1]), (some 8, [], []), (none, [8, 21], [3, 2, 2, 0, 1, 2, 3])] (fun w' => w'.cell? ⟨O1, 0, none⟩ = some (.slice (some ⟨b, o, none⟩) 24 k)) (by kernel_rfl) (by kernel_rfl) (by kernel_rfl) (by kernel_rfl) ((calm_then calm_body)) (bO1_0.1) (fun ops Q X13 hb hL hR hK => ?_)
    replace hE := hE.trans hb
    replace bO1_0 := BoxAt.ext hb bO1_0
    replace bO5_0 := BoxAt.ext hb bO5_0
    have hs14 := hb.size
    clear hb
    refine wd_take 0 (.agg #[.slice (some ⟨b, o, none⟩) 24 k]) hR rfl (by kernel_rfl) rfl (by kernel_rfl) (fun w hS => ex_load rfl (by kernel_rfl) (ld25 (hS))) (bO1_0.1) ?_
    refine wd_two 1 3 hR rfl rfl (by kernel_rfl) (by kernel_rfl) (by kernel_rfl) (by kernel_rfl) ?_ ?_
    ·
      refine sn_call (f := 36) (args := #[]) (by kernel_rfl) ((rEmpty_v _).mono ?_)
      rintro e w19 ⟨B15, rfl, hn16, v18, hb⟩
      replace hE := hE.trans hb
      replace bO1_0 := BoxAt.ext hb bO1_0
      replace bO5_0 := BoxAt.ext hb bO5_0
      have hs20 := hb.size
      clear hb
      have lt21 := v18.lt
      refine ⟨_, rfl, bO1_0.1, ?_⟩
      refine wd_two 2 3 hR rfl rfl (by kernel_rfl) (by kernel_rfl) (by kernel_rfl) (by kernel_rfl) ?_ ?_
      ·
        refine sn_call (f := 45) (args := #[.agg #[.slice (some ⟨b, o, none⟩) 24 k], .agg #[.slice (some ⟨B15, 0, none⟩) 24 24]]) (by kernel_rfl) ((less16_v _ _ _ (hA.ext hE) (Ext.refl _) v18 (Ext.refl _)).mono ?_)
        rintro e w26 ⟨B22, k23, rfl, hn25, v24, hb⟩
        replace hE := hE.trans hb
        replace bO1_0 := BoxAt.ext hb bO1_0
        replace bO5_0 := BoxAt.ext hb bO5_0
        replace v18 := v18.ext hb
        have hs27 := hb.size
        clear hb
        have lt28 := v24.lt
        refine ⟨_, rfl, bO1_0.1, ?_⟩
        refine wd_step 3 hR rfl (by kernel_rfl) (by kernel_rfl) (by kernel_rfl) (sn_new (us := #[.slice none 0 0]) (t := 25) (by kernel_rfl) ?_)
        intro O29 X30 hO hOs hb hbx
        have hzO29 := hO; have hyO29 := hOs; clear hO hOs
        have bO29_0 : BoxAt X30 O29 0 (.slice none 0 0) := hbx 0 _ rfl
        clear hbx
        replace hE := hE.trans hb
        replace bO1_0 := BoxAt.ext hb bO1_0
        replace bO5_0 := BoxAt.ext hb bO5_0
        replace v18 := v18.ext hb
        replace v24 := v24.ext hb
        have hs31 := hb.size
        clear hb
        have lt32 := bO29_0.lt
        refine ⟨bO1_0.1, ?_⟩
        refine wd_step 4 hR rfl (by kernel_rfl) (by kernel_rfl) (by kernel_rfl) (sn_set (O := O29) (j := 0) (v := .slice (some ⟨B22, 0, none⟩) 24 k23) (ex_store (p := .pointer (some ⟨O29, 0, none⟩)) (v := .agg #[.slice (some ⟨B22, 0, none⟩) 24 k23]) rfl (by kernel_rfl) (by kernel_rfl) (st25 bO29_0.1 bO29_0.2)) bO29_0 ?_)
        intro X33 ho hv0 hk
        replace hE := ho.ext hE (Nat.le_trans (Nat.le_trans hs3 (Nat.le_trans hs7 (Nat.le_trans hs10 (Nat.le_trans hs12 (Nat.le_trans hs14 (Nat.le_trans hs20 hs27)))))) (Nat.le_of_eq hzO29))
        replace bO1_0 := ho.box (Nat.ne_of_gt (Nat.lt_of_lt_of_le lt4 (Nat.le_trans (Nat.le_trans hs7 (Nat.le_trans hs10 (Nat.le_trans hs12 (Nat.le_trans hs14 (Nat.le_trans hs20 hs27))))) (Nat.le_of_eq hzO29)))) bO1_0
        replace bO5_0 := ho.box (Nat.ne_of_gt (Nat.lt_of_lt_of_le lt8 (Nat.le_trans (Nat.le_trans hs10 (Nat.le_trans hs12 (Nat.le_trans hs14 (Nat.le_trans hs20 hs27)))) (Nat.le_of_eq hzO29)))) bO5_0
        replace v18 := ho.va (Nat.ne_of_gt (Nat.lt_of_lt_of_le lt21 (Nat.le_trans hs27 (Nat.le_of_eq hzO29)))) v18
        replace v24 := ho.va (Nat.ne_of_gt (Nat.lt_of_lt_of_le lt28 (Nat.le_of_eq hzO29))) v24
        have hs34 : X30.heap.size ≤ X33.heap.size := Nat.le_of_eq ho.size.symm
        clear ho hk bO29_0
        have bO29_0 := hv0; clear hv0
        refine ⟨bO1_0.1, ?_⟩
        refine wd_end hL hR hK (by kernel_rfl) ?_
        exact qw_leaf hJ [1, 5, 7, 8] (ws' := [(1, .slice a n c), (5, .pointer (some ⟨O5, 0, none⟩)), (7, .slice none 0 0), (8, .pointer (some ⟨O29, 0, none⟩))]) (by kernel_rfl) ⟨B15, B22, k23, O29, rfl, hE, bO1_0, bO5_0, v18, v24, bO29_0, (Nat.le_trans hs14 (Nat.le_trans hs20 (Nat.le_trans hs27 (Nat.le_trans hs31 hs34)))), (Nat.le_trans hs14 hn16), (Nat.le_trans (Nat.le_trans hs14 hs20) hn25), (Nat.le_trans (Nat.le_trans hs14 (Nat.le_trans hs20 hs27)) (Nat.le_of_eq hzO29)), Lib.hid (Nat.ne_of_lt (Nat.lt_of_lt_of_le lt21 hn25)), Lib.hid (Nat.ne_of_lt (Nat.lt_of_lt_of_le lt21 (Nat.le_trans hs27 (Nat.le_of_eq hzO29)))), Lib.hid (Nat.ne_of_lt (Nat.lt_of_lt_of_le lt28 (Nat.le_of_eq hzO29)))⟩
      ·
        refine sn_new (us := #[.slice none 0 0]) (t := 25) (by kernel_rfl) ?_
        intro O35 X36 hO hOs hb hbx
        have hzO35 := hO; have hyO35 := hOs; clear hO hOs
        have bO35_0 : BoxAt X36 O35 0 (.slice none 0 0) := hbx 0 _ rfl
        clear hbx
        replace hE := hE.trans hb
        replace bO1_0 := BoxAt.ext hb bO1_0
        replace bO5_0 := BoxAt.ext hb bO5_0
        replace v18 := v18.ext hb
        have hs37 := hb.size
        clear hb
        have lt38 := bO35_0.lt
        refine ⟨bO1_0.1, ?_⟩
        refine wd_step 2 hR rfl (by kernel_rfl) (by kernel_rfl) (by kernel_rfl) (sn_call (f := 45) (args := #[.agg #[.slice (some ⟨b, o, none⟩) 24 k], .agg #[.slice (some ⟨B15, 0, none⟩) 24 24]]) (by kernel_rfl) ((less16_v _ _ _ (hA.ext hE) (Ext.refl _) v18 (Ext.refl _)).mono ?_))
        rintro e w43 ⟨B39, k40, rfl, hn42, v41, hb⟩
        replace hE := hE.trans hb
        replace bO1_0 := BoxAt.ext hb bO1_0
        replace bO5_0 := BoxAt.ext hb bO5_0
        replace v18 := v18.ext hb
        replace bO35_0 := BoxAt.ext hb bO35_0
        have hs44 := hb.size
        clear hb
        have lt45 := v41.lt
        refine ⟨_, rfl, bO1_0.1, ?_⟩
        refine wd_step 4 hR rfl (by kernel_rfl) (by kernel_rfl) (by kernel_rfl) (sn_set (O := O35) (j := 0) (v := .slice (some ⟨B39, 0, none⟩) 24 k40) (ex_store (p := .pointer (some ⟨O35, 0, none⟩)) (v := .agg #[.slice (some ⟨B39, 0, none⟩) 24 k40]) rfl (by kernel_rfl) (by kernel_rfl) (st25 bO35_0.1 bO35_0.2)) bO35_0 ?_)
        intro X46 ho hv0 hk
        replace hE := ho.ext hE (Nat.le_trans (Nat.le_trans hs3 (Nat.le_trans hs7 (Nat.le_trans hs10 (Nat.le_trans hs12 (Nat.le_trans hs14 hs20))))) (Nat.le_of_eq hzO35))
        replace bO1_0 := ho.box (Nat.ne_of_gt (Nat.lt_of_lt_of_le lt4 (Nat.le_trans (Nat.le_trans hs7 (Nat.le_trans hs10 (Nat.le_trans hs12 (Nat.le_trans hs14 hs20)))) (Nat.le_of_eq hzO35)))) bO1_0
        replace bO5_0 := ho.box (Nat.ne_of_gt (Nat.lt_of_lt_of_le lt8 (Nat.le_trans (Nat.le_trans hs10 (Nat.le_trans hs12 (Nat.le_trans hs14 hs20))) (Nat.le_of_eq hzO35)))) bO5_0
        replace v18 := ho.va (Nat.ne_of_gt (Nat.lt_of_lt_of_le lt21 (Nat.le_of_eq hzO35))) v18
        replace v41 := ho.va (Nat.ne_of_lt (Nat.lt_of_lt_of_le lt38 hn42)) v41
        have hs47 : w43.heap.size ≤ X46.heap.size := Nat.le_of_eq ho.size.symm
        clear ho hk bO35_0
        have bO35_0 := hv0; clear hv0
        refine ⟨bO1_0.1, ?_⟩
        refine wd_end hL hR hK (by kernel_rfl) ?_
        exact qw_leaf hJ [1, 5, 7, 8] (ws' := [(1, .slice a n c), (5, .pointer (some ⟨O5, 0, none⟩)), (7, .slice none 0 0), (8, .pointer (some ⟨O35, 0, none⟩))]) (by kernel_rfl) ⟨B15, B39, k40, O35, rfl, hE, bO1_0, bO5_0, v18, v41, bO35_0, (Nat.le_trans hs14 (Nat.le_trans hs20 (Nat.le_trans hs37 (Nat.le_trans hs44 hs47)))), (Nat.le_trans hs14 hn16), (Nat.le_trans (Nat.le_trans hs14 (Nat.le_trans hs20 hs37)) hn42), (Nat.le_trans (Nat.le_trans hs14 hs20) (Nat.le_of_eq hzO35)), Lib.hid (Nat.ne_of_lt (Nat.lt_of_lt_of_le lt21 (Nat.le_trans hs37 hn42))), Lib.hid (Nat.ne_of_lt (Nat.lt_of_lt_of_le lt21 (Nat.le_of_eq hzO35))), Lib.hid (Nat.ne_of_gt (Nat.lt_of_lt_of_le lt38 hn42))⟩
    ·
      refine sn_new (us := #[.slice none 0 0]) (t := 25) (by kernel_rfl) ?_
      intro O48 X49 hO hOs hb hbx
      have hzO48 := hO; have hyO48 := hOs; clear hO hOs
      have bO48_0 : BoxAt X49 O48 0 (.slice none 0 0) := hbx 0 _ rfl
      clear hbx
      replace hE := hE.trans hb
      replace bO1_0 := BoxAt.ext hb bO1_0
      replace bO5_0 := BoxAt.ext hb bO5_0
      have hs50 := hb.size
      clear hb
      have lt51 := bO48_0.lt
      refine ⟨bO1_0.1, ?_⟩
      refine wd_step 1 hR rfl (by kernel_rfl) (by kernel_rfl) (by kernel_rfl) (sn_call (f := 36) (args := #[]) (by kernel_rfl) ((rEmpty_v _).mono ?_))
      rintro e w56 ⟨B52, rfl, hn53, v55, hb⟩
      replace hE := hE.trans hb
      replace bO1_0 := BoxAt.ext hb bO1_0
      replace bO5_0 := BoxAt.ext hb bO5_0
      replace bO48_0 := BoxAt.ext hb bO48_0
      have hs57 := hb.size
      clear hb
      have lt58 := v55.lt
      refine ⟨_, rfl, bO1_0.1, ?_⟩
      refine wd_step 2 hR rfl (by kernel_rfl) (by kernel_rfl) (by kernel_rfl) (sn_call (f := 45) (args := #[.agg #[.slice (some ⟨b, o, none⟩) 24 k], .agg #[.slice (some ⟨B52, 0, none⟩) 24 24]]) (by kernel_rfl) ((less16_v _ _ _ (hA.ext hE) (Ext.refl _) v55 (Ext.refl _)).mono ?_))
      rintro e w63 ⟨B59, k60, rfl, hn62, v61, hb⟩
      replace hE := hE.trans hb
      replace bO1_0 := BoxAt.ext hb bO1_0
      replace bO5_0 := BoxAt.ext hb bO5_0
      replace bO48_0 := BoxAt.ext hb bO48_0
      replace v55 := v55.ext hb
      have hs64 := hb.size
      clear hb
      have lt65 := v61.lt
      refine ⟨_, rfl, bO1_0.1, ?_⟩
      refine wd_step 4 hR rfl (by kernel_rfl) (by kernel_rfl) (by kernel_rfl) (sn_set (O := O48) (j := 0) (v := .slice (some ⟨B59, 0, none⟩) 24 k60) (ex_store (p := .pointer (some ⟨O48, 0, none⟩)) (v := .agg #[.slice (some ⟨B59, 0, none⟩) 24 k60]) rfl (by kernel_rfl) (by kernel_rfl) (st25 bO48_0.1 bO48_0.2)) bO48_0 ?_)
      intro X66 ho hv0 hk
      replace hE := ho.ext hE (Nat.le_trans (Nat.le_trans hs3 (Nat.le_trans hs7 (Nat.le_trans hs10 (Nat.le_trans hs12 hs14)))) (Nat.le_of_eq hzO48))
      replace bO1_0 := ho.box (Nat.ne_of_gt (Nat.lt_of_lt_of_le lt4 (Nat.le_trans (Nat.le_trans hs7 (Nat.le_trans hs10 (Nat.le_trans hs12 hs14))) (Nat.le_of_eq hzO48)))) bO1_0
      replace bO5_0 := ho.box (Nat.ne_of_gt (Nat.lt_of_lt_of_le lt8 (Nat.le_trans (Nat.le_trans hs10 (Nat.le_trans hs12 hs14)) (Nat.le_of_eq hzO48)))) bO5_0
      replace v55 := ho.va (Nat.ne_of_lt (Nat.lt_of_lt_of_le lt51 hn53)) v55
      replace v61 := ho.va (Nat.ne_of_lt (Nat.lt_of_lt_of_le lt51 (Nat.le_trans hs57 hn62))) v61
      have hs67 : w63.heap.size ≤ X66.heap.size := Nat.le_of_eq ho.size.symm
      clear ho hk bO48_0
      have bO48_0 := hv0; clear hv0
      refine ⟨bO1_0.1, ?_⟩
      refine wd_end hL hR hK (by kernel_rfl) ?_
      exact qw_leaf hJ [1, 5, 7, 8] (ws' := [(1, .slice a n c), (5, .pointer (some ⟨O5, 0, none⟩)), (7, .slice none 0 0), (8, .pointer (some ⟨O48, 0, none⟩))]) (by kernel_rfl) ⟨B52, B59, k60, O48, rfl, hE, bO1_0, bO5_0, v55, v61, bO48_0, (Nat.le_trans hs14 (Nat.le_trans hs50 (Nat.le_trans hs57 (Nat.le_trans hs64 hs67)))), (Nat.le_trans (Nat.le_trans hs14 hs50) hn53), (Nat.le_trans (Nat.le_trans hs14 (Nat.le_trans hs50 hs57)) hn62), (Nat.le_trans hs14 (Nat.le_of_eq hzO48)), Lib.hid (Nat.ne_of_lt (Nat.lt_of_lt_of_le lt58 hn62)), Lib.hid (Nat.ne_of_gt (Nat.lt_of_lt_of_le lt51 hn53)), Lib.hid (Nat.ne_of_gt (Nat.lt_of_lt_of_le lt51 (Nat.le_trans hs57 hn62)))⟩
  ·
    clear bO1_0 bO5_0 hE
    rintro L ws Y68 ⟨B15, B22, k23, O29, rfl, hE, bO1_0, bO5_0, v18, v24, bO29_0, hn69, hn70, hn71, hn72, hn73, hn74, hn75⟩
    have lt76 := v18.lt
    have lt77 := v24.lt
    have lt78 := bO29_0.lt
    refine qw_then ?_
    refine cw_seq ?_
    refine cw_seq ?_
    refine cw_plain ?_
    refine pl_take (.int .i64 0) rfl (by kernel_rfl) (by kernel_rfl) (by kernel_rfl) (by kernel_rfl) ?_
    refine pl_nil ?_
    refine qw_then ?_
    refine cw_block ?_
    refine cw_loop [1, 5, 7, 8, 9] (fun ws' wr m => ∃ i : Nat, ∃ a9 : Option Addr, ∃ c9 : Nat, ∃ BB : Nat, ∃ kB : Nat, ws' = [(1, .slice a n c), (5, .pointer (some ⟨O5, 0, none⟩)), (7, .slice a9 i c9), (8, .pointer (some ⟨O29, 0, none⟩)), (9, .int .i64 (((i : Nat) : Int) : Int))] ∧ m = n - i ∧ Y68.heap.size ≤ wr.heap.size ∧ Ext w wr ∧ BoxAt wr O1 0 (.slice (some ⟨b, o, none⟩) 24 k) ∧ BoxAt wr O5 0 (.slice none 0 0) ∧ VA wr B15 0 Globe.zeroL ∧ OwnL (freshR Y68.heap.size areaR) Y68.heap.size 25 1 (.slice a9 i c9) wr (Globe.piecesL l ((ss.map fun s => s.1).take i)) ∧ BoxAt wr O29 0 (.slice (some ⟨BB, 0, none⟩) 24 kB) ∧ VA wr BB 0 (Globe.leftL l ((ss.map fun s => s.1).take i)) ∧ i ≤ n ∧ (.slice a9 i c9 : Value).ownBlock ≠ some BB ∧ Hid (O29 ≠ BB) ∧ Hid (O5 ≠ BB)) (ws0 := [(1, .slice a n c), (5, .pointer (some ⟨O5, 0, none⟩)), (7, .slice none 0 0), (8, .pointer (some ⟨O29, 0, none⟩)), (9, .int .i64 0)]) (by kernel_rfl) _ ⟨0, none, 0, B22, k23, rfl, rfl, Nat.le_refl _, hE, bO1_0, bO5_0, v18, OwnL.nil _ _ _ _ _, bO29_0, (less_zero v24 hA.2), by omega, (fun e => by cases e), Lib.hid (Ne.symm hn75.out), Lib.hid (Nat.ne_of_lt (Nat.lt_of_lt_of_le lt8 (Nat.le_trans (Nat.le_trans hs10 hs12) hn71)))⟩ ?_
    clear bO1_0 bO5_0 v18 v24 bO29_0 hE
    rintro m81 L ws w80 ⟨i, a9, c9, BB, kB, rfl, rfl, hs79, hE, bO1_0, bO5_0, v18, own9, bO29_0, vB, hi, hneA, hneO29, hneO5⟩
    have hX82 : Ext w80 w80 := Ext.refl _
    have lt83 := vB.lt
    by_cases hlt : i < n
    ·
      have hbk := own9.lt; have hbs := own9.base
      obtain ⟨sb, so, s, rfl, hs, hst⟩ := hS.at hlt
      obtain ⟨q1', q2', q3'⟩ := okS_at hok hs
      obtain ⟨S1, s1, e1', S2, s2, e2', d1, d2, g1, g2⟩ := hst.v q1' q2'
      have htk := take_snoc' (l := (ss.map fun s => s.1)) (i := i) (x := s.1) (by rw [List.getElem?_map, hs]; rfl)
      have hl1 : Globe.leftL l ((ss.map fun s => s.1).take (i + 1)) = Globe.lessL (Globe.leftL l ((ss.map fun s => s.1).take i)) s.1 := by rw [htk, Globe.left_snoc]
      have hp1 : (Globe.piecesL l ((ss.map fun s => s.1).take (i + 1))) = (Globe.piecesL l ((ss.map fun s => s.1).take i)) ++ [Globe.meetL (Globe.leftL l ((ss.map fun s => s.1).take i)) s.1] := by rw [htk, Globe.pieces_snoc]
      have hlp : (Globe.piecesL l ((ss.map fun s => s.1).take i)).length = i := by rw [Globe.pieces_len, List.length_take, List.length_map, hln]; omega
      refine cw_seq ?_
      refine cw_seq ?_
      refine cw_plain ?_
      refine pl_take (.int .i64 (((i : Nat) : Int) : Int)) rfl (by kernel_rfl) (by kernel_rfl) (by kernel_rfl) (by kernel_rfl) ?_
      refine pl_take (.slice (some ⟨sb, so, none⟩) n c) rfl (by kernel_rfl) (by kernel_rfl) (by kernel_rfl) (by kernel_rfl) ?_
      refine pl_take (.int .i64 (((n : Nat) : Int) : Int)) rfl (by kernel_rfl) (by kernel_rfl) (by kernel_rfl) (by kernel_rfl) ?_
      refine pl_take (.bool true) rfl (by kernel_rfl) (by kernel_rfl) (by kernel_rfl) (ev_dec (show _ = Result.ok (Next.value (Value.bool (decide ((((i : Nat) : Int) : Int) < (((n : Nat) : Int) : Int))))) _ from by kernel_rfl) (by omega)) ?_
      refine pl_nil ?_
      refine qw_then ?_
      refine cw_t (by kernel_rfl) ?_
      refine cw_skip ?_
      refine qw_then ?_
      refine cw_seq ?_
      refine cw_block ?_
      refine cw_seq ?_
      refine cw_draw [(some 28, [7], []), (some 29, [8], []), (some 30, [1], []), (some 31, [9], []), (some 32, [30, 31], [2, 3]), (some 33, [32], [4]), (some 34, [33], [5]), (some 35, [29, 34], [1, 6]), (some 36, [35], [7]), (some 37, [28, 36], [0, 8, 7]), (some 7, [37], [9, 9, 0, 1, 2, 3, 4, 5, 6, 7, 8, 9])] (fun w' => w'.cell? ⟨O29, 0, none⟩ = some (.slice (some ⟨BB, 0, none⟩) 24 kB) ∧ w'.cell? ⟨sb, so + i * 2, none⟩ = some (.slice (some ⟨S1, s1, none⟩) 24 e1')) (by kernel_rfl) (by kernel_rfl) (by kernel_rfl) (by kernel_rfl) ((calm_then (calm_block (calm_then (calm_then (calm_block (calm_then calm_body))))))) (⟨bO29_0.1, (hE.cell d1)⟩) (fun ops Q X84 hb hL hR hK => ?_)
      replace hE := hE.trans hb
      replace hX82 := hX82.trans hb
      replace bO1_0 := BoxAt.ext hb bO1_0
      replace bO5_0 := BoxAt.ext hb bO5_0
      replace v18 := v18.ext hb
      replace bO29_0 := BoxAt.ext hb bO29_0
      replace vB := vB.ext hb
      have hs85 := hb.size
      clear hb
      refine wd_take 0 (.slice a9 i c9) hR rfl (by kernel_rfl) rfl (by kernel_rfl) (fun w _ => by kernel_rfl) (⟨bO29_0.1, (hE.cell d1)⟩) ?_
      refine wd_take 1 (.agg #[.slice (some ⟨BB, 0, none⟩) 24 kB]) hR rfl (by kernel_rfl) rfl (by kernel_rfl) (fun w hS => ex_load rfl (by kernel_rfl) (ld25 (hS.1))) (⟨bO29_0.1, (hE.cell d1)⟩) ?_
      refine wd_take 2 (.slice (some ⟨sb, so, none⟩) n c) hR rfl (by kernel_rfl) rfl (by kernel_rfl) (fun w _ => by kernel_rfl) (⟨bO29_0.1, (hE.cell d1)⟩) ?_
      refine wd_take 3 (.int .i64 (((i : Nat) : Int) : Int)) hR rfl (by kernel_rfl) rfl (by kernel_rfl) (fun w _ => by kernel_rfl) (⟨bO29_0.1, (hE.cell d1)⟩) ?_
      refine wd_take 4 (.pointer (some ⟨sb, so + i * 2, none⟩)) hR rfl (by kernel_rfl) rfl (by kernel_rfl) (fun w _ => ex_index (p := .slice (some ⟨sb, so, none⟩) n c) (i := .int .i64 ((i : Nat) : Int)) rfl (by kernel_rfl) (by kernel_rfl) (ix26 (k := i) (by omega))) (⟨bO29_0.1, (hE.cell d1)⟩) ?_
      refine wd_take 5 (.pointer (some ⟨sb, so + i * 2, none⟩)) hR rfl (by kernel_rfl) rfl (by kernel_rfl) (fun w _ => by kernel_rfl) (⟨bO29_0.1, (hE.cell d1)⟩) ?_
      refine wd_take 6 (.agg #[.slice (some ⟨S1, s1, none⟩) 24 e1']) hR rfl (by kernel_rfl) rfl (by kernel_rfl) (fun w hS => ex_load rfl (by kernel_rfl) (ld25 (hS.2))) (⟨bO29_0.1, (hE.cell d1)⟩) ?_
      refine wd_step 7 hR rfl (by kernel_rfl) (by kernel_rfl) (by kernel_rfl) (sn_call (f := 47) (args := #[.agg #[.slice (some ⟨BB, 0, none⟩) 24 kB], .agg #[.slice (some ⟨S1, s1, none⟩) 24 e1']]) (by kernel_rfl) ((meet16_v _ _ _ vB (Ext.refl _) (g1.ext hE) (Ext.refl _)).mono ?_))
      rintro e w90 ⟨B86, k87, rfl, hn89, v88, hb⟩
      replace hE := hE.trans hb
      replace hX82 := hX82.trans hb
      replace bO1_0 := BoxAt.ext hb bO1_0
      replace bO5_0 := BoxAt.ext hb bO5_0
      replace v18 := v18.ext hb
      replace bO29_0 := BoxAt.ext hb bO29_0
      replace vB := vB.ext hb
      have hs91 := hb.size
      clear hb
      have lt92 := v88.lt
      refine ⟨_, rfl, ⟨bO29_0.1, (hE.cell d1)⟩, ?_⟩
      refine wd_step 8 hR rfl (by kernel_rfl) (by kernel_rfl) (by kernel_rfl) (sn_newS (us := #[.slice (some ⟨B86, 0, none⟩) 24 k87]) (t := 25) (k := 1) (c := 1) (by kernel_rfl) ?_)
      intro O93 X94 hO hOs hb hbx
      have hzO93 := hO; have hyO93 := hOs; clear hO hOs
      have bO93_0 : BoxAt X94 O93 0 (.slice (some ⟨B86, 0, none⟩) 24 k87) := hbx 0 _ rfl
      clear hbx
      replace hE := hE.trans hb
      replace hX82 := hX82.trans hb
      replace bO1_0 := BoxAt.ext hb bO1_0
      replace bO5_0 := BoxAt.ext hb bO5_0
      replace v18 := v18.ext hb
      replace bO29_0 := BoxAt.ext hb bO29_0
      replace vB := vB.ext hb
      replace v88 := v88.ext hb
      have hs95 := hb.size
      clear hb
      have lt96 := bO93_0.lt
      refine ⟨⟨bO29_0.1, (hE.cell d1)⟩, ?_⟩
      obtain ⟨g97, cap98, w99, hrun100, own101, hgr102, hgb103⟩ := own_app1k (P := Tryd.prog) (ty := 34) areaT (own9.ext hX82) (Nat.le_trans hs79 (Nat.le_trans hs85 (Nat.le_trans hs91 hs95))) (k := i) hlp (O := O93) (c := 1) (x := Globe.meetL (Globe.leftL l ((ss.map fun s => s.1).take i)) s.1) (d := [.slice (some ⟨B86, 0, none⟩) 24 k87]) rfl (cells1 bO93_0.1) (by simp [Value.oneCell']) (⟨⟨_, _, _, rfl, v88, rfl⟩, fresh1 (Nat.le_trans (Nat.le_trans hs79 hs85) hn89)⟩) (away1 hbk (Nat.le_trans hs85 hn89)) (by omega) (by omega)
      refine wd_step 9 hR rfl (by kernel_rfl) (by kernel_rfl) (by kernel_rfl) (sn_eff (v := .slice (some ⟨g97, 0, none⟩) (i + 1) cap98) (w' := w99) (ex_append rfl (by kernel_rfl) (by kernel_rfl) hrun100) ?_)
      replace hE := hgr102.ext _ hE (Nat.le_trans hs3 (Nat.le_trans hs7 (Nat.le_trans hs10 (Nat.le_trans hs12 hn69))))
      have hs104 := hgr102.size
      replace bO1_0 := BoxAt.grownR bO1_0 hgb103 (own_not hbs (Nat.lt_of_lt_of_le lt4 (Nat.le_trans hs7 (Nat.le_trans hs10 (Nat.le_trans hs12 hn69)))))
      replace bO5_0 := BoxAt.grownR bO5_0 hgb103 (own_not hbs (Nat.lt_of_lt_of_le lt8 (Nat.le_trans hs10 (Nat.le_trans hs12 hn69))))
      replace v18 := VA.grownR v18 hgb103 (own_not hbs (Nat.lt_of_lt_of_le lt76 (Nat.le_refl _)))
      replace bO29_0 := BoxAt.grownR bO29_0 hgb103 (own_not hbs (Nat.lt_of_lt_of_le lt78 (Nat.le_refl _)))
      replace vB := VA.grownR vB hgb103 hneA
      replace v88 := VA.grownR v88 hgb103 (own_not2 hbk (Nat.le_trans hs85 hn89))
      replace bO93_0 := BoxAt.grownR bO93_0 hgb103 (own_not2 hbk (Nat.le_trans (Nat.le_trans hs85 hs91) (Nat.le_of_eq hzO93)))
      refine ⟨⟨bO29_0.1, (hE.cell d1)⟩, ?_⟩
      have hl105 := own101.base g97 rfl; have hh106 := own101.lt g97 rfl
      have hX107 : Ext w99 w99 := Ext.refl _
      refine wd_take 10 (.slice (some ⟨g97, 0, none⟩) (i + 1) cap98) hR rfl (by kernel_rfl) rfl (by kernel_rfl) (fun w _ => by kernel_rfl) (⟨bO29_0.1, (hE.cell d1)⟩) ?_
      refine wd_end hL hR hK (by kernel_rfl) ?_
      refine qw_then ?_
      refine cw_clean [1, 5, 7, 8, 9] (ws' := [(1, .slice (some ⟨sb, so, none⟩) n c), (5, .pointer (some ⟨O5, 0, none⟩)), (7, .slice (some ⟨g97, 0, none⟩) (i + 1) cap98), (8, .pointer (some ⟨O29, 0, none⟩)), (9, .int .i64 (((i : Nat) : Int) : Int))]) (by kernel_rfl) (fun L => ?_)
      refine cw_draw [(some 38, [8], []), (some 39, [1], []), (some 40, [9], []), (some 41, [39, 40], [1, 2]), (some 42, [41], [3]), (some 43, [42], [4]), (some 44, [38, 43], [0, 5]), (none, [8, 44], [6, 6, 0, 1, 2, 3, 4, 5, 6])] (fun w' => w'.cell? ⟨sb, so + i * 2, none⟩ = some (.slice (some ⟨S1, s1, none⟩) 24 e1')) (by kernel_rfl) (by kernel_rfl) (by kernel_rfl) (by kernel_rfl) ((calm_block (calm_then (calm_then (calm_block (calm_then calm_body)))))) ((hE.cell d1)) (fun ops Q X108 hb hL hR hK => ?_)
      replace hE := hE.trans hb
      replace hX107 := hX107.trans hb
      replace bO1_0 := BoxAt.ext hb bO1_0
      replace bO5_0 := BoxAt.ext hb bO5_0
      replace v18 := v18.ext hb
      replace bO29_0 := BoxAt.ext hb bO29_0
      replace vB := vB.ext hb
      replace v88 := v88.ext hb
      replace bO93_0 := BoxAt.ext hb bO93_0
      have hs109 := hb.size
      clear hb
      refine wd_take 1 (.slice (some ⟨sb, so, none⟩) n c) hR rfl (by kernel_rfl) rfl (by kernel_rfl) (fun w _ => by kernel_rfl) ((hE.cell d1)) ?_
      refine wd_take 2 (.int .i64 (((i : Nat) : Int) : Int)) hR rfl (by kernel_rfl) rfl (by kernel_rfl) (fun w _ => by kernel_rfl) ((hE.cell d1)) ?_
      refine wd_take 3 (.pointer (some ⟨sb, so + i * 2, none⟩)) hR rfl (by kernel_rfl) rfl (by kernel_rfl) (fun w _ => ex_index (p := .slice (some ⟨sb, so, none⟩) n c) (i := .int .i64 ((i : Nat) : Int)) rfl (by kernel_rfl) (by kernel_rfl) (ix26 (k := i) (by omega))) ((hE.cell d1)) ?_
      refine wd_take 4 (.pointer (some ⟨sb, so + i * 2, none⟩)) hR rfl (by kernel_rfl) rfl (by kernel_rfl) (fun w _ => by kernel_rfl) ((hE.cell d1)) ?_
      refine wd_take 5 (.agg #[.slice (some ⟨S1, s1, none⟩) 24 e1']) hR rfl (by kernel_rfl) rfl (by kernel_rfl) (fun w hS => ex_load rfl (by kernel_rfl) (ld25 (hS))) ((hE.cell d1)) ?_
      refine wd_step 0 hR rfl (by kernel_rfl) (by kernel_rfl) (by kernel_rfl) (sn_eff (v := .agg #[.slice (some ⟨BB, 0, none⟩) 24 kB]) (w' := X108) (ex_load rfl (by kernel_rfl) (ld25 (bO29_0.1))) ⟨(hE.cell d1), ?_⟩)
      refine wd_step 6 hR rfl (by kernel_rfl) (by kernel_rfl) (by kernel_rfl) (sn_call (f := 45) (args := #[.agg #[.slice (some ⟨BB, 0, none⟩) 24 kB], .agg #[.slice (some ⟨S1, s1, none⟩) 24 e1']]) (by kernel_rfl) ((less16_v _ _ _ vB (Ext.refl _) (g1.ext hE) (Ext.refl _)).mono ?_))
      rintro e w114 ⟨B110, k111, rfl, hn113, v112, hb⟩
      replace hE := hE.trans hb
      replace hX107 := hX107.trans hb
      replace bO1_0 := BoxAt.ext hb bO1_0
      replace bO5_0 := BoxAt.ext hb bO5_0
      replace v18 := v18.ext hb
      replace bO29_0 := BoxAt.ext hb bO29_0
      replace vB := vB.ext hb
      replace v88 := v88.ext hb
      replace bO93_0 := BoxAt.ext hb bO93_0
      have hs115 := hb.size
      clear hb
      have lt116 := v112.lt
      refine ⟨_, rfl, (hE.cell d1), ?_⟩
      have own8 := (own101.ext hX107)
      refine wd_step 7 hR rfl (by kernel_rfl) (by kernel_rfl) (by kernel_rfl) (sn_setG (O := O29) (j := 0) (v := .slice (some ⟨B110, 0, none⟩) 24 k111) (ex_store (p := .pointer (some ⟨O29, 0, none⟩)) (v := .agg #[.slice (some ⟨B110, 0, none⟩) 24 k111]) rfl (by kernel_rfl) (by kernel_rfl) (st25 bO29_0.1 bO29_0.2)) bO29_0 ?_)
      intro X117 ho hv0 hgX
      replace hE := ho.ext hE (Nat.le_trans (Nat.le_trans hs3 (Nat.le_trans hs7 (Nat.le_trans hs10 hs12))) hn72)
      replace bO1_0 := ho.box (Nat.ne_of_gt (Nat.lt_of_lt_of_le lt4 (Nat.le_trans (Nat.le_trans hs7 (Nat.le_trans hs10 hs12)) hn72))) bO1_0
      replace bO5_0 := ho.box (Nat.ne_of_gt (Nat.lt_of_lt_of_le lt8 (Nat.le_trans (Nat.le_trans hs10 hs12) hn72))) bO5_0
      replace v18 := ho.va (Ne.symm hn74.out) v18
      replace vB := ho.va hneO29.out vB
      replace v88 := ho.va (Nat.ne_of_lt (Nat.lt_of_lt_of_le lt78 (Nat.le_trans (Nat.le_trans hs79 hs85) hn89))) v88
      replace bO93_0 := ho.box (Nat.ne_of_lt (Nat.lt_of_lt_of_le lt78 (Nat.le_trans (Nat.le_trans hs79 (Nat.le_trans hs85 hs91)) (Nat.le_of_eq hzO93)))) bO93_0
      replace v112 := ho.va (Nat.ne_of_lt (Nat.lt_of_lt_of_le lt78 (Nat.le_trans (Nat.le_trans hs79 (Nat.le_trans hs85 (Nat.le_trans hs91 (Nat.le_trans hs95 (Nat.le_trans hs104 hs109))))) hn113))) v112
      have hs118 : w114.heap.size ≤ X117.heap.size := Nat.le_of_eq ho.size.symm
      replace own8 := own8.keepR hgX (Nat.lt_of_lt_of_le lt78 (Nat.le_refl _)) (Nat.lt_of_lt_of_le lt78 (Nat.le_refl _))
      clear ho hgX bO29_0
      have bO29_0 := hv0; clear hv0
      refine ⟨(hE.cell d1), ?_⟩
      have hX119 : Ext X117 X117 := Ext.refl _
      refine wd_end hL hR hK (by kernel_rfl) ?_
      refine qw_block ?_
      refine qw_then ?_
      refine cw_plain ?_
      refine pl_take (.int .i64 (((i : Nat) : Int) : Int)) rfl (by kernel_rfl) (by kernel_rfl) (by kernel_rfl) (by kernel_rfl) ?_
      refine pl_take (.int .i64 (((i + 1 : Nat) : Int) : Int)) rfl (by kernel_rfl) (by kernel_rfl) (by kernel_rfl) (ev_wrap (by kernel_rfl) (by omega) (by omega)) ?_
      refine pl_take (.int .i64 (((i + 1 : Nat) : Int) : Int)) rfl (by kernel_rfl) (by kernel_rfl) (by kernel_rfl) (by kernel_rfl) ?_
      refine pl_nil ?_
      refine qw_round [1, 5, 7, 8, 9] (ws' := [(1, .slice (some ⟨sb, so, none⟩) n c), (5, .pointer (some ⟨O5, 0, none⟩)), (7, .slice (some ⟨g97, 0, none⟩) (i + 1) cap98), (8, .pointer (some ⟨O29, 0, none⟩)), (9, .int .i64 (((i + 1 : Nat) : Int) : Int))]) (by kernel_rfl) _ ?_ ⟨(i + 1), (some ⟨g97, 0, none⟩), cap98, B110, k111, rfl, rfl, (Nat.le_trans hs79 (Nat.le_trans hs85 (Nat.le_trans hs91 (Nat.le_trans hs95 (Nat.le_trans hs104 (Nat.le_trans hs109 (Nat.le_trans hs115 hs118))))))), hE, bO1_0, bO5_0, v18, (by rw [hp1]; exact own8), bO29_0, (by rw [hl1]; exact v112), by omega, (fun e => absurd (Option.some.inj e) (Nat.ne_of_lt (Nat.lt_of_lt_of_le hh106 (Nat.le_trans hs109 hn113)))), Lib.hid (Nat.ne_of_lt (Nat.lt_of_lt_of_le lt78 (Nat.le_trans (Nat.le_trans hs79 (Nat.le_trans hs85 (Nat.le_trans hs91 (Nat.le_trans hs95 (Nat.le_trans hs104 hs109))))) hn113))), Lib.hid (Nat.ne_of_lt (Nat.lt_of_lt_of_le lt8 (Nat.le_trans (Nat.le_trans hs10 (Nat.le_trans hs12 (Nat.le_trans hn69 (Nat.le_trans hs79 (Nat.le_trans hs85 (Nat.le_trans hs91 (Nat.le_trans hs95 (Nat.le_trans hs104 hs109)))))))) hn113)))⟩
      omega
    ·
      have hin : i = n := by omega
      rw [hin, List.take_of_length_le (by rw [List.length_map, hln]; exact Nat.le_refl _)] at vB own9
      subst hin
      refine cw_seq ?_
      refine cw_seq ?_
      refine cw_plain ?_
      refine pl_take (.int .i64 (((i : Nat) : Int) : Int)) rfl (by kernel_rfl) (by kernel_rfl) (by kernel_rfl) (by kernel_rfl) ?_
      refine pl_take (.slice a i c) rfl (by kernel_rfl) (by kernel_rfl) (by kernel_rfl) (by kernel_rfl) ?_
      refine pl_take (.int .i64 (((i : Nat) : Int) : Int)) rfl (by kernel_rfl) (by kernel_rfl) (by kernel_rfl) (by kernel_rfl) ?_
      refine pl_take (.bool false) rfl (by kernel_rfl) (by kernel_rfl) (by kernel_rfl) (ev_ndec (show _ = Result.ok (Next.value (Value.bool (decide ((((i : Nat) : Int) : Int) < (((i : Nat) : Int) : Int))))) _ from by kernel_rfl) (by omega)) ?_
      refine pl_nil ?_
      refine qw_then ?_
      refine cw_f (by kernel_rfl) ?_
      refine cw_exit ?_
      refine qw_then_exit ?_
      refine qw_then_exit ?_
      refine qw_block_out ?_
      refine qw_then ?_
      refine cw_seq ?_
      refine cw_draw [(some 45, [7], []), (some 46, [8], []), (some 4, [45], [0, 0]), (none, [5, 46], [1, 2, 0, 1, 2]), (some 6, [], [3, 0, 1, 2, 3])] (fun w' => w'.cell? ⟨O29, 0, none⟩ = some (.slice (some ⟨BB, 0, none⟩) 24 kB)) (by kernel_rfl) (by kernel_rfl) (by kernel_rfl) (by kernel_rfl) ((calm_then calm_body)) (bO29_0.1) (fun ops Q X120 hb hL hR hK => ?_)
      replace hE := hE.trans hb
      replace hX82 := hX82.trans hb
      replace bO1_0 := BoxAt.ext hb bO1_0
      replace bO5_0 := BoxAt.ext hb bO5_0
      replace v18 := v18.ext hb
      replace bO29_0 := BoxAt.ext hb bO29_0
      replace vB := vB.ext hb
      have hs121 := hb.size
      clear hb
      refine wd_take 0 (.slice a9 i c9) hR rfl (by kernel_rfl) rfl (by kernel_rfl) (fun w _ => by kernel_rfl) (bO29_0.1) ?_
      refine wd_take 1 (.agg #[.slice (some ⟨BB, 0, none⟩) 24 kB]) hR rfl (by kernel_rfl) rfl (by kernel_rfl) (fun w hS => ex_load rfl (by kernel_rfl) (ld25 (hS))) (bO29_0.1) ?_
      refine wd_take 2 (.slice a9 i c9) hR rfl (by kernel_rfl) rfl (by kernel_rfl) (fun w _ => by kernel_rfl) (bO29_0.1) ?_
      have own7 := (own9.ext hX82)
      refine wd_step 3 hR rfl (by kernel_rfl) (by kernel_rfl) (by kernel_rfl) (sn_setG (O := O5) (j := 0) (v := .slice (some ⟨BB, 0, none⟩) 24 kB) (ex_store (p := .pointer (some ⟨O5, 0, none⟩)) (v := .agg #[.slice (some ⟨BB, 0, none⟩) 24 kB]) rfl (by kernel_rfl) (by kernel_rfl) (st25 bO5_0.1 bO5_0.2)) bO5_0 ?_)
      intro X122 ho hv0 hgX
      replace hE := ho.ext hE (Nat.le_trans hs3 (Nat.le_of_eq hzO5))
      replace bO1_0 := ho.box (Nat.ne_of_gt (Nat.lt_of_lt_of_le lt4 (Nat.le_of_eq hzO5))) bO1_0
      replace v18 := ho.va (Nat.ne_of_lt (Nat.lt_of_lt_of_le lt8 (Nat.le_trans (Nat.le_trans hs10 hs12) hn70))) v18
      replace bO29_0 := ho.box (Nat.ne_of_lt (Nat.lt_of_lt_of_le lt8 (Nat.le_trans (Nat.le_trans hs10 hs12) hn72))) bO29_0
      replace vB := ho.va hneO5.out vB
      have hs123 : X120.heap.size ≤ X122.heap.size := Nat.le_of_eq ho.size.symm
      replace own7 := own7.keepR hgX (Nat.lt_of_lt_of_le lt8 (Nat.le_trans hs10 (Nat.le_trans hs12 hn69))) (Nat.lt_of_lt_of_le lt8 (Nat.le_trans hs10 (Nat.le_trans hs12 hn69)))
      clear ho hgX bO5_0
      have bO5_0 := hv0; clear hv0
      refine ⟨bO29_0.1, ?_⟩
      have hX124 : Ext X122 X122 := Ext.refl _
      refine wd_take 4 (.int .i64 0) hR rfl (by kernel_rfl) rfl (by kernel_rfl) (fun w _ => by kernel_rfl) (bO29_0.1) ?_
      refine wd_end hL hR hK (by kernel_rfl) ?_
      refine qw_then ?_
      refine cw_ret ?_
      refine qw_ret [.slice a9 i c9, .agg #[.slice (some ⟨BB, 0, none⟩) 24 kB], .int .i64 0] rfl ⟨(by kernel_rfl), ⟨_, by kernel_rfl, res_ld (ld25 (bO5_0.1))⟩, (by kernel_rfl), trivial⟩ ?_
      exact ⟨_, _, _, _, _, rfl, (own7).weaken.areas (by rw [Globe.pieces_len, List.length_map, hln]) hnb, vB, hE⟩
set_option maxRecDepth 1000000 in
set_option maxHeartbeats 4000000 in
theorem rDecompose_n {w1 w2 : World} {a : Option Addr} {n : Nat} {ss : List (List Int × List Int)} {a1 : Option Addr} {n1 : Nat} {l : List Int} {v : Bool} (c k : Nat) (w : World) (hl : AA w1 a1 l n1 v) (e1 : Ext w1 w) (h : StripsAt w2 a n ss) (e2 : Ext w2 w) (hno : (v && Globe.stripsOk ss) = false) :
    Calls Tryd.prog 18 #[.agg #[.slice a1 n1 k], .slice a n c] w (DecErr w) := by
  have hA := hl.ext e1; have hS := h.ext e2; have hln := h.1; have hnb := h.2.1
  refine calls_cw 47 [(1, .slice a n c), (0, .agg #[.slice a1 n1 k])] Tryd.func18 rfl Tryd.ntmps18 (by kernel_rfl) (by kernel_rfl) (fun L => ?_)
  have hE : Ext w w := Ext.refl w
  refine cw_seq ?_
  refine cw_plain ?_
  refine pl_step rfl (by kernel_rfl) (by kernel_rfl) (by kernel_rfl) (sn_new (us := #[.slice a1 n1 k]) (t := 25) (by kernel_rfl) ?_)
  intro O1 X2 hO hOs hb hbx
  have hzO1 := hO; have hyO1 := hOs; clear hO hOs
  have bO1_0 : BoxAt X2 O1 0 (.slice a1 n1 k) := hbx 0 _ rfl
  clear hbx
  replace hE := hE.trans hb
  have hs3 := hb.size
  clear hb
  have lt4 := bO1_0.lt
  refine pl_take (.slice none 0 0) rfl (by kernel_rfl) (by kernel_rfl) (by kernel_rfl) (by kernel_rfl) ?_
  refine pl_step rfl (by kernel_rfl) (by kernel_rfl) (by kernel_rfl) (sn_new (us := #[.slice none 0 0]) (t := 25) (by kernel_rfl) ?_)
  intro O5 X6 hO hOs hb hbx
  have hzO5 := hO; have hyO5 := hOs; clear hO hOs
  have bO5_0 : BoxAt X6 O5 0 (.slice none 0 0) := hbx 0 _ rfl
  clear hbx
  replace hE := hE.trans hb
  replace bO1_0 := BoxAt.ext hb bO1_0
  have hs7 := hb.size
  clear hb
  have lt8 := bO5_0.lt
  refine pl_take (.int .i64 0) rfl (by kernel_rfl) (by kernel_rfl) (by kernel_rfl) (by kernel_rfl) ?_
  refine pl_nil ?_
  refine qw_then ?_
  refine cw_seq ?_
  refine cw_seq ?_
  rcases b2 _ _ hno with rfl | ⟨rfl, hok⟩
  ·
    refine cw_plain ?_
    refine pl_take (.agg #[.slice a1 n1 k]) rfl (by kernel_rfl) (by kernel_rfl) (by kernel_rfl) (ex_load rfl (by kernel_rfl) (ld25 (bO1_0.1))) ?_
    refine pl_step rfl (by kernel_rfl) (by kernel_rfl) (by kernel_rfl) (sn_call (f := 44) (args := #[.agg #[.slice a1 n1 k]]) (by kernel_rfl) ((rValid_c _ _ hA hE).mono ?_))
    rintro e w9 ⟨rfl, hb⟩
    replace hE := hE.trans hb
    replace bO1_0 := BoxAt.ext hb bO1_0
    replace bO5_0 := BoxAt.ext hb bO5_0
    have hs10 := hb.size
    clear hb
    refine ⟨_, rfl, ?_⟩
    refine pl_take (.bool true) rfl (by kernel_rfl) (by kernel_rfl) (by kernel_rfl) (by kernel_rfl) ?_
    refine pl_take (.bool true) rfl (by kernel_rfl) (by kernel_rfl) (by kernel_rfl) (by kernel_rfl) ?_
    refine pl_skip rfl (by kernel_rfl) (by kernel_rfl) (by kernel_rfl) ?_
    refine pl_skip rfl (by kernel_rfl) (by kernel_rfl) (by kernel_rfl) ?_
    refine pl_skip rfl (by kernel_rfl) (by kernel_rfl) (by kernel_rfl) ?_
    refine pl_take (.bool true) rfl (by kernel_rfl) (by kernel_rfl) (by kernel_rfl) (by kernel_rfl) ?_
    refine pl_nil ?_
    refine qw_then ?_
    refine cw_t (by kernel_rfl) ?_
    refine cw_seq ?_
    refine cw_plain ?_
    refine pl_take (.agg #[.slice none 0 0]) rfl (by kernel_rfl) (by kernel_rfl) (by kernel_rfl) (by kernel_rfl) ?_
    refine pl_take (.slice none 0 0) rfl (by kernel_rfl) (by kernel_rfl) (by kernel_rfl) (by kernel_rfl) ?_
    refine pl_put rfl (by kernel_rfl) (by kernel_rfl) (sn_set (O := O5) (j := 0) (v := .slice none 0 0) (ex_store (p := .pointer (some ⟨O5, 0, none⟩)) (v := .agg #[.slice none 0 0]) rfl (by kernel_rfl) (by kernel_rfl) (st25 bO5_0.1 bO5_0.2)) bO5_0 ?_)
    intro X11 ho hv0 hk
    replace hE := ho.ext hE (Nat.le_trans hs3 (Nat.le_of_eq hzO5))
    replace bO1_0 := ho.box (Nat.ne_of_gt (Nat.lt_of_lt_of_le lt4 (Nat.le_of_eq hzO5))) bO1_0
    have hs12 : w9.heap.size ≤ X11.heap.size := Nat.le_of_eq ho.size.symm
    clear ho hk bO5_0
    have bO5_0 := hv0; clear hv0
    refine pl_take (.int .i64 160) rfl (by kernel_rfl) (by kernel_rfl) (by kernel_rfl) (by kernel_rfl) ?_
    refine pl_nil ?_
    refine qw_then ?_
    refine cw_clean [4, 5, 6] (ws' := [(4, .slice none 0 0), (5, .pointer (some ⟨O5, 0, none⟩)), (6, .int .i64 160)]) (by kernel_rfl) (fun L => ?_)
    refine cw_ret ?_
    refine qw_then_ret ?_
    refine qw_ret [.slice none 0 0, .agg #[.slice none 0 0], .int .i64 160] rfl ⟨(by kernel_rfl), ⟨_, by kernel_rfl, res_ld (ld25 (bO5_0.1))⟩, (by kernel_rfl), trivial⟩ ?_
    exact ⟨rfl, hE⟩
  ·
    refine cw_plain ?_
    refine pl_take (.agg #[.slice a1 n1 k]) rfl (by kernel_rfl) (by kernel_rfl) (by kernel_rfl) (ex_load rfl (by kernel_rfl) (ld25 (bO1_0.1))) ?_
    refine pl_step rfl (by kernel_rfl) (by kernel_rfl) (by kernel_rfl) (sn_call (f := 44) (args := #[.agg #[.slice a1 n1 k]]) (by kernel_rfl) ((rValid_c _ _ hA hE).mono ?_))
    rintro e w13 ⟨rfl, hb⟩
    replace hE := hE.trans hb
    replace bO1_0 := BoxAt.ext hb bO1_0
    replace bO5_0 := BoxAt.ext hb bO5_0
    have hs14 := hb.size
    clear hb
    refine ⟨_, rfl, ?_⟩
    refine pl_take (.bool false) rfl (by kernel_rfl) (by kernel_rfl) (by kernel_rfl) (by kernel_rfl) ?_
    refine pl_take (.bool false) rfl (by kernel_rfl) (by kernel_rfl) (by kernel_rfl) (by kernel_rfl) ?_
    refine pl_take (.slice a n c) rfl (by kernel_rfl) (by kernel_rfl) (by kernel_rfl) (by kernel_rfl) ?_
    refine pl_step rfl (by kernel_rfl) (by kernel_rfl) (by kernel_rfl) (sn_call (f := 20) (args := #[.slice a n c]) (by kernel_rfl) ((rValidS_r (r := false) _ _ hS hE (hok)).mono ?_))
    rintro e w15 ⟨rfl, hb⟩
    replace hE := hE.trans hb
    replace bO1_0 := BoxAt.ext hb bO1_0
    replace bO5_0 := BoxAt.ext hb bO5_0
    have hs16 := hb.size
    clear hb
    refine ⟨_, rfl, ?_⟩
    refine pl_take (.bool true) rfl (by kernel_rfl) (by kernel_rfl) (by kernel_rfl) (by kernel_rfl) ?_
    refine pl_take (.bool true) rfl (by kernel_rfl) (by kernel_rfl) (by kernel_rfl) (by kernel_rfl) ?_
    refine pl_nil ?_
    refine qw_then ?_
    refine cw_t (by kernel_rfl) ?_
    refine cw_seq ?_
    refine cw_plain ?_
    refine pl_take (.agg #[.slice none 0 0]) rfl (by kernel_rfl) (by kernel_rfl) (by kernel_rfl) (by kernel_rfl) ?_
    refine pl_take (.slice none 0 0) rfl (by kernel_rfl) (by kernel_rfl) (by kernel_rfl) (by kernel_rfl) ?_
    refine pl_put rfl (by kernel_rfl) (by kernel_rfl) (sn_set (O := O5) (j := 0) (v := .slice none 0 0) (ex_store (p := .pointer (some ⟨O5, 0, none⟩)) (v := .agg #[.slice none 0 0]) rfl (by kernel_rfl) (by kernel_rfl) (st25 bO5_0.1 bO5_0.2)) bO5_0 ?_)
    intro X17 ho hv0 hk
    replace hE := ho.ext hE (Nat.le_trans hs3 (Nat.le_of_eq hzO5))
    replace bO1_0 := ho.box (Nat.ne_of_gt (Nat.lt_of_lt_of_le lt4 (Nat.le_of_eq hzO5))) bO1_0
    have hs18 : w15.heap.size ≤ X17.heap.size := Nat.le_of_eq ho.size.symm
    clear ho hk bO5_0
    have bO5_0 := hv0; clear hv0
    refine pl_take (.int .i64 160) rfl (by kernel_rfl) (by kernel_rfl) (by kernel_rfl) (by kernel_rfl) ?_
    refine pl_nil ?_
    refine qw_then ?_
    refine cw_clean [4, 5, 6] (ws' := [(4, .slice none 0 0), (5, .pointer (some ⟨O5, 0, none⟩)), (6, .int .i64 160)]) (by kernel_rfl) (fun L => ?_)
    refine cw_ret ?_
    refine qw_then_ret ?_
    refine qw_ret [.slice none 0 0, .agg #[.slice none 0 0], .int .i64 160] rfl ⟨(by kernel_rfl), ⟨_, by kernel_rfl, res_ld (ld25 (bO5_0.1))⟩, (by kernel_rfl), trivial⟩ ?_
    exact ⟨rfl, hE⟩

end Go.Proofs.YtglfoglkdbbmmaaDoor

/- Contract of the reference of package cover: Check. -/
namespace Go.Proofs.YtglfoglkdbbmmaaDoor
open Go.RowKit Go.Shelf

theorem b3e : ∀ v r : Bool, v = false ∨ (v = true ∧ r = false) ∨ (v = true ∧ r = true) := by decide
theorem b4 {np n : Nat} {v r : Bool} (h : (decide (np = n) && (v && r)) = false) : v = false ∨ (v = true ∧ r = false) ∨ (v = true ∧ r = true ∧ np ≠ n) := by
  cases v
  · exact .inl rfl
  · cases r
    · exact .inr (.inl ⟨rfl, rfl⟩)
    · refine .inr (.inr ⟨rfl, rfl, fun e => ?_⟩)
      rw [decide_eq_true e] at h; cases h
set_option maxRecDepth 1000000 in
set_option maxHeartbeats 4000000 in
theorem rCheck_v {w1 w2 w3 : World} {a ap : Option Addr} {n : Nat} {ss : List (List Int × List Int)} {ps : List (List Int)} {b o : Nat} (c k cp : Nat) {l : List Int} (w : World) (hl : VA w1 b o l) (e1 : Ext w1 w) (h : StripsAt w2 a n ss) (e2 : Ext w2 w) (hok : Globe.stripsOk ss = true) (hp : AreasAt w3 ap n ps) (e3 : Ext w3 w) :
    Calls Tryd.prog 24 #[.agg #[.slice (some ⟨b, o, none⟩) 24 k], .slice a n c, .slice ap n cp] w fun e w' => e = .returned (.bool (Globe.checkL l (ss.map fun s => s.1) ps)) ∧ Ext w w' := by
  have hA := hl.ext e1; have hS := h.ext e2; have hP := hp.ext e3; have hln := h.1; have hnb := h.2.1; have hlp := hp.1
  refine calls_cw 62 [(2, .slice ap n cp), (1, .slice a n c), (0, .agg #[.slice (some ⟨b, o, none⟩) 24 k])] Tryd.func24 rfl Tryd.ntmps24 (by kernel_rfl) (by kernel_rfl) (fun L => ?_)
  have hE : Ext w w := Ext.refl w
  refine cw_seq ?_
  refine cw_plain ?_
  refine pl_step rfl (by kernel_rfl) (by kernel_rfl) (by kernel_rfl) (sn_new (us := #[.slice (some ⟨b, o, none⟩) 24 k]) (t := 25) (by kernel_rfl) ?_)
  intro O1 X2 hO hOs hb hbx
  have hzO1 := hO; have hyO1 := hOs; clear hO hOs
  have bO1_0 : BoxAt X2 O1 0 (.slice (some ⟨b, o, none⟩) 24 k) := hbx 0 _ rfl
  clear hbx
  replace hE := hE.trans hb
  have hs3 := hb.size
  clear hb
  have lt4 := bO1_0.lt
  refine pl_take (.bool false) rfl (by kernel_rfl) (by kernel_rfl) (by kernel_rfl) (by kernel_rfl) ?_
  refine pl_nil ?_
  refine qw_then ?_
  refine cw_seq ?_
  refine cw_seq ?_
  refine cw_plain ?_
  refine pl_take (.agg #[.slice (some ⟨b, o, none⟩) 24 k]) rfl (by kernel_rfl) (by kernel_rfl) (by kernel_rfl) (ex_load rfl (by kernel_rfl) (ld25 (bO1_0.1))) ?_
  refine pl_step rfl (by kernel_rfl) (by kernel_rfl) (by kernel_rfl) (sn_call (f := 44) (args := #[.agg #[.slice (some ⟨b, o, none⟩) 24 k]]) (by kernel_rfl) ((rValid_c _ _ (hA.ext hE).aa (Ext.refl _)).mono ?_))
  rintro e w5 ⟨rfl, hb⟩
  replace hE := hE.trans hb
  replace bO1_0 := BoxAt.ext hb bO1_0
  have hs6 := hb.size
  clear hb
  refine ⟨_, rfl, ?_⟩
  refine pl_take (.bool false) rfl (by kernel_rfl) (by kernel_rfl) (by kernel_rfl) (by kernel_rfl) ?_
  refine pl_take (.bool false) rfl (by kernel_rfl) (by kernel_rfl) (by kernel_rfl) (by kernel_rfl) ?_
  refine pl_take (.slice a n c) rfl (by kernel_rfl) (by kernel_rfl) (by kernel_rfl) (by kernel_rfl) ?_
  refine pl_step rfl (by kernel_rfl) (by kernel_rfl) (by kernel_rfl) (sn_call (f := 20) (args := #[.slice a n c]) (by kernel_rfl) ((rValidS_r (r := true) _ _ hS hE (hok)).mono ?_))
  rintro e w7 ⟨rfl, hb⟩
  replace hE := hE.trans hb
  replace bO1_0 := BoxAt.ext hb bO1_0
  have hs8 := hb.size
  clear hb
  refine ⟨_, rfl, ?_⟩
  refine pl_take (.bool false) rfl (by kernel_rfl) (by kernel_rfl) (by kernel_rfl) (by kernel_rfl) ?_
  refine pl_take (.bool false) rfl (by kernel_rfl) (by kernel_rfl) (by kernel_rfl) (by kernel_rfl) ?_
  refine pl_take (.bool false) rfl (by kernel_rfl) (by kernel_rfl) (by kernel_rfl) (by kernel_rfl) ?_
  refine pl_take (.slice ap n cp) rfl (by kernel_rfl) (by kernel_rfl) (by kernel_rfl) (by kernel_rfl) ?_
  refine pl_take (.int .i64 (((n : Nat) : Int) : Int)) rfl (by kernel_rfl) (by kernel_rfl) (by kernel_rfl) (by kernel_rfl) ?_
  refine pl_take (.slice a n c) rfl (by kernel_rfl) (by kernel_rfl) (by kernel_rfl) (by kernel_rfl) ?_
  refine pl_take (.int .i64 (((n : Nat) : Int) : Int)) rfl (by kernel_rfl) (by kernel_rfl) (by kernel_rfl) (by kernel_rfl) ?_
  refine pl_take (.bool false) rfl (by kernel_rfl) (by kernel_rfl) (by kernel_rfl) (ev_nne (show _ = Result.ok (Next.value (Value.bool ((((n : Nat) : Int) : Int) != (((n : Nat) : Int) : Int)))) _ from by kernel_rfl) (by omega)) ?_
  refine pl_take (.bool false) rfl (by kernel_rfl) (by kernel_rfl) (by kernel_rfl) (by kernel_rfl) ?_
  refine pl_nil ?_
  refine qw_then ?_
  refine cw_clean [1, 2, 3, 23] (ws' := [(1, .slice a n c), (2, .slice ap n cp), (3, .pointer (some ⟨O1, 0, none⟩)), (23, .bool false)]) (by kernel_rfl) (fun L => ?_)
  refine cw_f (by kernel_rfl) ?_
  refine cw_skip ?_
  refine qw_then ?_
  refine cw_seq ?_
  refine cw_join (fun ws' Y => ∃ B11 : Nat, ∃ B18 : Nat, ∃ k19 : Nat, ∃ O25 : Nat, ws' = [(1, .slice a n c), (2, .slice ap n cp), (7, .pointer (some ⟨O25, 0, none⟩))] ∧ Ext w Y ∧ BoxAt Y O1 0 (.slice (some ⟨b, o, none⟩) 24 k) ∧ VA Y B11 0 Globe.zeroL ∧ VA Y B18 0 (Globe.lessL l Globe.zeroL) ∧ BoxAt Y O25 0 (.slice (some ⟨B18, 0, none⟩) 24 k19) ∧ w7.heap.size ≤ Y.heap.size ∧ w7.heap.size ≤ B11 ∧ w7.heap.size ≤ B18 ∧ w7.heap.size ≤ O25 ∧ Hid (B11 ≠ B18) ∧ Hid (B11 ≠ O25) ∧ Hid (B18 ≠ O25)) (fun hJ => ?_) ?_
  ·
    refine cw_draw [(some 24, [3], []), (some 25, [], []), (some 26, [24, 25], [0, 1, 1]), (some 7, [], []), (none, [7, 26], [3, 2, 2, 0, 1, 2, 3])] (fun w' => w'.cell? ⟨O1, 0, none⟩ = some (.slice (some ⟨b, o, none⟩) 24 k)) (by kernel_rfl) (by kernel_rfl) (by kernel_rfl) (by kernel_rfl) ((calm_then calm_body)) (bO1_0.1) (fun ops Q X9 hb hL hR hK => ?_)
    replace hE := hE.trans hb
    replace bO1_0 := BoxAt.ext hb bO1_0
    have hs10 := hb.size
    clear hb
    refine wd_take 0 (.agg #[.slice (some ⟨b, o, none⟩) 24 k]) hR rfl (by kernel_rfl) rfl (by kernel_rfl) (fun w hS => ex_load rfl (by kernel_rfl) (ld25 (hS))) (bO1_0.1) ?_
    refine wd_two 1 3 hR rfl rfl (by kernel_rfl) (by kernel_rfl) (by kernel_rfl) (by kernel_rfl) ?_ ?_
    ·
      refine sn_call (f := 36) (args := #[]) (by kernel_rfl) ((rEmpty_v _).mono ?_)
      rintro e w15 ⟨B11, rfl, hn12, v14, hb⟩
      replace hE := hE.trans hb
      replace bO1_0 := BoxAt.ext hb bO1_0
      have hs16 := hb.size
      clear hb
      have lt17 := v14.lt
      refine ⟨_, rfl, bO1_0.1, ?_⟩
      refine wd_two 2 3 hR rfl rfl (by kernel_rfl) (by kernel_rfl) (by kernel_rfl) (by kernel_rfl) ?_ ?_
      ·
        refine sn_call (f := 45) (args := #[.agg #[.slice (some ⟨b, o, none⟩) 24 k], .agg #[.slice (some ⟨B11, 0, none⟩) 24 24]]) (by kernel_rfl) ((less16_v _ _ _ (hA.ext hE) (Ext.refl _) v14 (Ext.refl _)).mono ?_)
        rintro e w22 ⟨B18, k19, rfl, hn21, v20, hb⟩
        replace hE := hE.trans hb
        replace bO1_0 := BoxAt.ext hb bO1_0
        replace v14 := v14.ext hb
        have hs23 := hb.size
        clear hb
        have lt24 := v20.lt
        refine ⟨_, rfl, bO1_0.1, ?_⟩
        refine wd_step 3 hR rfl (by kernel_rfl) (by kernel_rfl) (by kernel_rfl) (sn_new (us := #[.slice none 0 0]) (t := 25) (by kernel_rfl) ?_)
        intro O25 X26 hO hOs hb hbx
        have hzO25 := hO; have hyO25 := hOs; clear hO hOs
        have bO25_0 : BoxAt X26 O25 0 (.slice none 0 0) := hbx 0 _ rfl
        clear hbx
        replace hE := hE.trans hb
        replace bO1_0 := BoxAt.ext hb bO1_0
        replace v14 := v14.ext hb
        replace v20 := v20.ext hb
        have hs27 := hb.size
        clear hb
        have lt28 := bO25_0.lt
        refine ⟨bO1_0.1, ?_⟩
        refine wd_step 4 hR rfl (by kernel_rfl) (by kernel_rfl) (by kernel_rfl) (sn_set (O := O25) (j := 0) (v := .slice (some ⟨B18, 0, none⟩) 24 k19) (ex_store (p := .pointer (some ⟨O25, 0, none⟩)) (v := .agg #[.slice (some ⟨B18, 0, none⟩) 24 k19]) rfl (by kernel_rfl) (by kernel_rfl) (st25 bO25_0.1 bO25_0.2)) bO25_0 ?_)
        intro X29 ho hv0 hk
        replace hE := ho.ext hE (Nat.le_trans (Nat.le_trans hs3 (Nat.le_trans hs6 (Nat.le_trans hs8 (Nat.le_trans hs10 (Nat.le_trans hs16 hs23))))) (Nat.le_of_eq hzO25))
        replace bO1_0 := ho.box (Nat.ne_of_gt (Nat.lt_of_lt_of_le lt4 (Nat.le_trans (Nat.le_trans hs6 (Nat.le_trans hs8 (Nat.le_trans hs10 (Nat.le_trans hs16 hs23)))) (Nat.le_of_eq hzO25)))) bO1_0
        replace v14 := ho.va (Nat.ne_of_gt (Nat.lt_of_lt_of_le lt17 (Nat.le_trans hs23 (Nat.le_of_eq hzO25)))) v14
        replace v20 := ho.va (Nat.ne_of_gt (Nat.lt_of_lt_of_le lt24 (Nat.le_of_eq hzO25))) v20
        have hs30 : X26.heap.size ≤ X29.heap.size := Nat.le_of_eq ho.size.symm
        clear ho hk bO25_0
        have bO25_0 := hv0; clear hv0
        refine ⟨bO1_0.1, ?_⟩
        refine wd_end hL hR hK (by kernel_rfl) ?_
        exact qw_leaf hJ [1, 2, 7] (ws' := [(1, .slice a n c), (2, .slice ap n cp), (7, .pointer (some ⟨O25, 0, none⟩))]) (by kernel_rfl) ⟨B11, B18, k19, O25, rfl, hE, bO1_0, v14, v20, bO25_0, (Nat.le_trans hs10 (Nat.le_trans hs16 (Nat.le_trans hs23 (Nat.le_trans hs27 hs30)))), (Nat.le_trans hs10 hn12), (Nat.le_trans (Nat.le_trans hs10 hs16) hn21), (Nat.le_trans (Nat.le_trans hs10 (Nat.le_trans hs16 hs23)) (Nat.le_of_eq hzO25)), Lib.hid (Nat.ne_of_lt (Nat.lt_of_lt_of_le lt17 hn21)), Lib.hid (Nat.ne_of_lt (Nat.lt_of_lt_of_le lt17 (Nat.le_trans hs23 (Nat.le_of_eq hzO25)))), Lib.hid (Nat.ne_of_lt (Nat.lt_of_lt_of_le lt24 (Nat.le_of_eq hzO25)))⟩
      ·
        refine sn_new (us := #[.slice none 0 0]) (t := 25) (by kernel_rfl) ?_
        intro O31 X32 hO hOs hb hbx
        have hzO31 := hO; have hyO31 := hOs; clear hO hOs
        have bO31_0 : BoxAt X32 O31 0 (.slice none 0 0) := hbx 0 _ rfl
        clear hbx
        replace hE := hE.trans hb
        replace bO1_0 := BoxAt.ext hb bO1_0
        replace v14 := v14.ext hb
        have hs33 := hb.size
        clear hb
        have lt34 := bO31_0.lt
        refine ⟨bO1_0.1, ?_⟩
        refine wd_step 2 hR rfl (by kernel_rfl) (by kernel_rfl) (by kernel_rfl) (sn_call (f := 45) (args := #[.agg #[.slice (some ⟨b, o, none⟩) 24 k], .agg #[.slice (some ⟨B11, 0, none⟩) 24 24]]) (by kernel_rfl) ((less16_v _ _ _ (hA.ext hE) (Ext.refl _) v14 (Ext.refl _)).mono ?_))
        rintro e w39 ⟨B35, k36, rfl, hn38, v37, hb⟩
        replace hE := hE.trans hb
        replace bO1_0 := BoxAt.ext hb bO1_0
        replace v14 := v14.ext hb
        replace bO31_0 := BoxAt.ext hb bO31_0
        have hs40 := hb.size
        clear hb
        have lt41 := v37.lt
        refine ⟨_, rfl, bO1_0.1, ?_⟩
        refine wd_step 4 hR rfl (by kernel_rfl) (by kernel_rfl) (by kernel_rfl) (sn_set (O := O31) (j := 0) (v := .slice (some ⟨B35, 0, none⟩) 24 k36) (ex_store (p := .pointer (some ⟨O31, 0, none⟩)) (v := .agg #[.slice (some ⟨B35, 0, none⟩) 24 k36]) rfl (by kernel_rfl) (by kernel_rfl) (st25 bO31_0.1 bO31_0.2)) bO31_0 ?_)
        intro X42 ho hv0 hk
        replace hE := ho.ext hE (Nat.le_trans (Nat.le_trans hs3 (Nat.le_trans hs6 (Nat.le_trans hs8 (Nat.le_trans hs10 hs16)))) (Nat.le_of_eq hzO31))
        replace bO1_0 := ho.box (Nat.ne_of_gt (Nat.lt_of_lt_of_le lt4 (Nat.le_trans (Nat.le_trans hs6 (Nat.le_trans hs8 (Nat.le_trans hs10 hs16))) (Nat.le_of_eq hzO31)))) bO1_0
        replace v14 := ho.va (Nat.ne_of_gt (Nat.lt_of_lt_of_le lt17 (Nat.le_of_eq hzO31))) v14
        replace v37 := ho.va (Nat.ne_of_lt (Nat.lt_of_lt_of_le lt34 hn38)) v37
        have hs43 : w39.heap.size ≤ X42.heap.size := Nat.le_of_eq ho.size.symm
        clear ho hk bO31_0
        have bO31_0 := hv0; clear hv0
        refine ⟨bO1_0.1, ?_⟩
        refine wd_end hL hR hK (by kernel_rfl) ?_
        exact qw_leaf hJ [1, 2, 7] (ws' := [(1, .slice a n c), (2, .slice ap n cp), (7, .pointer (some ⟨O31, 0, none⟩))]) (by kernel_rfl) ⟨B11, B35, k36, O31, rfl, hE, bO1_0, v14, v37, bO31_0, (Nat.le_trans hs10 (Nat.le_trans hs16 (Nat.le_trans hs33 (Nat.le_trans hs40 hs43)))), (Nat.le_trans hs10 hn12), (Nat.le_trans (Nat.le_trans hs10 (Nat.le_trans hs16 hs33)) hn38), (Nat.le_trans (Nat.le_trans hs10 hs16) (Nat.le_of_eq hzO31)), Lib.hid (Nat.ne_of_lt (Nat.lt_of_lt_of_le lt17 (Nat.le_trans hs33 hn38))), Lib.hid (Nat.ne_of_lt (Nat.lt_of_lt_of_le lt17 (Nat.le_of_eq hzO31))), Lib.hid (Nat.ne_of_gt (Nat.lt_of_lt_of_le lt34 hn38))⟩
    ·
      refine sn_new (us := #[.slice none 0 0]) (t := 25) (by kernel_rfl) ?_
      intro O44 X45 hO hOs hb hbx
      have hzO44 := hO; have hyO44 := hOs; clear hO hOs
      have bO44_0 : BoxAt X45 O44 0 (.slice none 0 0) := hbx 0 _ rfl
      clear hbx
      replace hE := hE.trans hb
      replace bO1_0 := BoxAt.ext hb bO1_0
      have hs46 := hb.size
      clear hb
      have lt47 := bO44_0.lt
      refine ⟨bO1_0.1, ?_⟩
      refine wd_step 1 hR rfl (by kernel_rfl) (by kernel_rfl) (by kernel_rfl) (sn_call (f := 36) (args := #[]) (by kernel_rfl) ((rEmpty_v _).mono ?_))
      rintro e w52 ⟨B48, rfl, hn49, v51, hb⟩
      replace hE := hE.trans hb
      replace bO1_0 := BoxAt.ext hb bO1_0
      replace bO44_0 := BoxAt.ext hb bO44_0
      have hs53 := hb.size
      clear hb
      have lt54 := v51.lt
      refine ⟨_, rfl, bO1_0.1, ?_⟩
      refine wd_step 2 hR rfl (by kernel_rfl) (by kernel_rfl) (by kernel_rfl) (sn_call (f := 45) (args := #[.agg #[.slice (some ⟨b, o, none⟩) 24 k], .agg #[.slice (some ⟨B48, 0, none⟩) 24 24]]) (by kernel_rfl) ((less16_v _ _ _ (hA.ext hE) (Ext.refl _) v51 (Ext.refl _)).mono ?_))
      rintro e w59 ⟨B55, k56, rfl, hn58, v57, hb⟩
      replace hE := hE.trans hb
      replace bO1_0 := BoxAt.ext hb bO1_0
      replace bO44_0 := BoxAt.ext hb bO44_0
      replace v51 := v51.ext hb
      have hs60 := hb.size
      clear hb
      have lt61 := v57.lt
      refine ⟨_, rfl, bO1_0.1, ?_⟩
      refine wd_step 4 hR rfl (by kernel_rfl) (by kernel_rfl) (by kernel_rfl) (sn_set (O := O44) (j := 0) (v := .slice (some ⟨B55, 0, none⟩) 24 k56) (ex_store (p := .pointer (some ⟨O44, 0, none⟩)) (v := .agg #[.slice (some ⟨B55, 0, none⟩) 24 k56]) rfl (by kernel_rfl) (by kernel_rfl) (st25 bO44_0.1 bO44_0.2)) bO44_0 ?_)
      intro X62 ho hv0 hk
      replace hE := ho.ext hE (Nat.le_trans (Nat.le_trans hs3 (Nat.le_trans hs6 (Nat.le_trans hs8 hs10))) (Nat.le_of_eq hzO44))
      replace bO1_0 := ho.box (Nat.ne_of_gt (Nat.lt_of_lt_of_le lt4 (Nat.le_trans (Nat.le_trans hs6 (Nat.le_trans hs8 hs10)) (Nat.le_of_eq hzO44)))) bO1_0
      replace v51 := ho.va (Nat.ne_of_lt (Nat.lt_of_lt_of_le lt47 hn49)) v51
      replace v57 := ho.va (Nat.ne_of_lt (Nat.lt_of_lt_of_le lt47 (Nat.le_trans hs53 hn58))) v57
      have hs63 : w59.heap.size ≤ X62.heap.size := Nat.le_of_eq ho.size.symm
      clear ho hk bO44_0
      have bO44_0 := hv0; clear hv0
      refine ⟨bO1_0.1, ?_⟩
      refine wd_end hL hR hK (by kernel_rfl) ?_
      exact qw_leaf hJ [1, 2, 7] (ws' := [(1, .slice a n c), (2, .slice ap n cp), (7, .pointer (some ⟨O44, 0, none⟩))]) (by kernel_rfl) ⟨B48, B55, k56, O44, rfl, hE, bO1_0, v51, v57, bO44_0, (Nat.le_trans hs10 (Nat.le_trans hs46 (Nat.le_trans hs53 (Nat.le_trans hs60 hs63)))), (Nat.le_trans (Nat.le_trans hs10 hs46) hn49), (Nat.le_trans (Nat.le_trans hs10 (Nat.le_trans hs46 hs53)) hn58), (Nat.le_trans hs10 (Nat.le_of_eq hzO44)), Lib.hid (Nat.ne_of_lt (Nat.lt_of_lt_of_le lt54 hn58)), Lib.hid (Nat.ne_of_gt (Nat.lt_of_lt_of_le lt47 hn49)), Lib.hid (Nat.ne_of_gt (Nat.lt_of_lt_of_le lt47 (Nat.le_trans hs53 hn58)))⟩
  ·
    clear bO1_0 hE
    rintro L ws Y64 ⟨B11, B18, k19, O25, rfl, hE, bO1_0, v14, v20, bO25_0, hn65, hn66, hn67, hn68, hn69, hn70, hn71⟩
    have lt72 := v14.lt
    have lt73 := v20.lt
    have lt74 := bO25_0.lt
    refine qw_then ?_
    refine cw_seq ?_
    refine cw_seq ?_
    refine cw_plain ?_
    refine pl_take (.int .i64 0) rfl (by kernel_rfl) (by kernel_rfl) (by kernel_rfl) (by kernel_rfl) ?_
    refine pl_nil ?_
    refine qw_then ?_
    refine cw_block ?_
    refine cw_loop [1, 2, 7, 8] (fun ws' wr m => ∃ i : Nat, ∃ BB : Nat, ∃ kB : Nat, ∃ T : List Int, ws' = [(1, .slice a n c), (2, .slice ap n cp), (7, .pointer (some ⟨O25, 0, none⟩)), (8, .int .i64 (((i : Nat) : Int) : Int))] ∧ m = n - i ∧ Y64.heap.size ≤ wr.heap.size ∧ Ext w wr ∧ BoxAt wr O1 0 (.slice (some ⟨b, o, none⟩) 24 k) ∧ VA wr B11 0 Globe.zeroL ∧ BoxAt wr O25 0 (.slice (some ⟨BB, 0, none⟩) 24 kB) ∧ VA wr BB 0 T ∧ i ≤ n ∧ Globe.checkL l (ss.map fun s => s.1) ps = Globe.checkL T ((ss.map fun s => s.1).drop i) (ps.drop i) ∧ Hid (O25 ≠ BB)) (ws0 := [(1, .slice a n c), (2, .slice ap n cp), (7, .pointer (some ⟨O25, 0, none⟩)), (8, .int .i64 0)]) (by kernel_rfl) _ ⟨0, B18, k19, l, rfl, rfl, Nat.le_refl _, hE, bO1_0, v14, bO25_0, (less_zero (S := []) v20 hA.2), by omega, rfl, Lib.hid (Ne.symm hn71.out)⟩ ?_
    clear bO1_0 v14 v20 bO25_0 hE
    rintro m77 L ws w76 ⟨i, BB, kB, T, rfl, rfl, hs75, hE, bO1_0, v14, bO25_0, vB, hi, Hck, hne⟩
    have lt78 := vB.lt
    by_cases hlt : i < n
    ·
      obtain ⟨sb, so, s, rfl, hs, hst⟩ := hS.at hlt
      obtain ⟨q1', q2', q3'⟩ := okS_at hok hs
      obtain ⟨S1, s1, e1', S2, s2, e2', d1, d2, g1, g2⟩ := hst.v q1' q2'
      obtain ⟨pb, po, pp, a3, n3, c3, v3, rfl, hpp, dp, AP⟩ := hP.at hlt
      have hck := check_step (rest := T) (Ss := (ss.map fun s => s.1)) (s := s.1) (by rw [List.getElem?_map, hs]; rfl) hpp
      refine cw_seq ?_
      refine cw_seq ?_
      refine cw_plain ?_
      refine pl_take (.int .i64 (((i : Nat) : Int) : Int)) rfl (by kernel_rfl) (by kernel_rfl) (by kernel_rfl) (by kernel_rfl) ?_
      refine pl_take (.slice (some ⟨sb, so, none⟩) n c) rfl (by kernel_rfl) (by kernel_rfl) (by kernel_rfl) (by kernel_rfl) ?_
      refine pl_take (.int .i64 (((n : Nat) : Int) : Int)) rfl (by kernel_rfl) (by kernel_rfl) (by kernel_rfl) (by kernel_rfl) ?_
      refine pl_take (.bool true) rfl (by kernel_rfl) (by kernel_rfl) (by kernel_rfl) (ev_dec (show _ = Result.ok (Next.value (Value.bool (decide ((((i : Nat) : Int) : Int) < (((n : Nat) : Int) : Int))))) _ from by kernel_rfl) (by omega)) ?_
      refine pl_nil ?_
      refine qw_then ?_
      refine cw_t (by kernel_rfl) ?_
      refine cw_skip ?_
      refine qw_then ?_
      refine cw_seq ?_
      refine cw_block ?_
      refine cw_seq ?_
      refine cw_seq ?_
      rcases b3e (Globe.containsB s.1 pp) (Globe.containsB T pp) with hq1 | ⟨hq1, hq2⟩ | ⟨hq1, hq2⟩
      ·
        refine cw_draw [(some 33, [1], []), (some 34, [8], []), (some 35, [33, 34], [0, 1]), (some 36, [35], [2]), (some 37, [36], [3]), (some 38, [2], []), (some 39, [8], []), (some 40, [38, 39], [5, 6]), (some 41, [40], [7]), (some 42, [37, 41], [4, 8]), (some 43, [42], [9]), (some 44, [43], [10, 9]), (some 45, [7, 44], [11]), (some 46, [2, 44], [11]), (some 47, [8, 44], [11]), (some 48, [46, 47, 44], [13, 14, 11]), (some 49, [48, 44], [15, 11]), (some 50, [45, 49, 44], [12, 16, 11, 11]), (some 51, [50, 44], [17, 11]), (some 52, [44, 51], [11, 18])] (fun w' => w'.cell? ⟨sb, so + i * 2, none⟩ = some (.slice (some ⟨S1, s1, none⟩) 24 e1') ∧ w'.cell? ⟨pb, po + i, none⟩ = some (.slice a3 n3 c3)) (by kernel_rfl) (by kernel_rfl) (by kernel_rfl) (by kernel_rfl) ((calm_then (calm_then (calm_block (calm_then (calm_then (calm_block (calm_then calm_body)))))))) (⟨(hE.cell d1), (hE.cell dp)⟩) (fun ops Q X79 hb hL hR hK => ?_)
        replace hE := hE.trans hb
        replace bO1_0 := BoxAt.ext hb bO1_0
        replace v14 := v14.ext hb
        replace bO25_0 := BoxAt.ext hb bO25_0
        replace vB := vB.ext hb
        have hs80 := hb.size
        clear hb
        refine wd_take 0 (.slice (some ⟨sb, so, none⟩) n c) hR rfl (by kernel_rfl) rfl (by kernel_rfl) (fun w _ => by kernel_rfl) (⟨(hE.cell d1), (hE.cell dp)⟩) ?_
        refine wd_take 1 (.int .i64 (((i : Nat) : Int) : Int)) hR rfl (by kernel_rfl) rfl (by kernel_rfl) (fun w _ => by kernel_rfl) (⟨(hE.cell d1), (hE.cell dp)⟩) ?_
        refine wd_take 2 (.pointer (some ⟨sb, so + i * 2, none⟩)) hR rfl (by kernel_rfl) rfl (by kernel_rfl) (fun w _ => ex_index (p := .slice (some ⟨sb, so, none⟩) n c) (i := .int .i64 ((i : Nat) : Int)) rfl (by kernel_rfl) (by kernel_rfl) (ix26 (k := i) (by omega))) (⟨(hE.cell d1), (hE.cell dp)⟩) ?_
        refine wd_take 3 (.pointer (some ⟨sb, so + i * 2, none⟩)) hR rfl (by kernel_rfl) rfl (by kernel_rfl) (fun w _ => by kernel_rfl) (⟨(hE.cell d1), (hE.cell dp)⟩) ?_
        refine wd_take 4 (.agg #[.slice (some ⟨S1, s1, none⟩) 24 e1']) hR rfl (by kernel_rfl) rfl (by kernel_rfl) (fun w hS => ex_load rfl (by kernel_rfl) (ld25 (hS.1))) (⟨(hE.cell d1), (hE.cell dp)⟩) ?_
        refine wd_take 5 (.slice (some ⟨pb, po, none⟩) n cp) hR rfl (by kernel_rfl) rfl (by kernel_rfl) (fun w _ => by kernel_rfl) (⟨(hE.cell d1), (hE.cell dp)⟩) ?_
        refine wd_take 6 (.int .i64 (((i : Nat) : Int) : Int)) hR rfl (by kernel_rfl) rfl (by kernel_rfl) (fun w _ => by kernel_rfl) (⟨(hE.cell d1), (hE.cell dp)⟩) ?_
        refine wd_take 7 (.pointer (some ⟨pb, po + i, none⟩)) hR rfl (by kernel_rfl) rfl (by kernel_rfl) (fun w _ => ex_index (p := .slice (some ⟨pb, po, none⟩) n cp) (i := .int .i64 ((i : Nat) : Int)) rfl (by kernel_rfl) (by kernel_rfl) (ix34 (k := i) (by omega))) (⟨(hE.cell d1), (hE.cell dp)⟩) ?_
        refine wd_take 8 (.agg #[.slice a3 n3 c3]) hR rfl (by kernel_rfl) rfl (by kernel_rfl) (fun w hS => ex_load rfl (by kernel_rfl) (ld25 (hS.2))) (⟨(hE.cell d1), (hE.cell dp)⟩) ?_
        refine wd_step 9 hR rfl (by kernel_rfl) (by kernel_rfl) (by kernel_rfl) (sn_call (f := 50) (args := #[.agg #[.slice (some ⟨S1, s1, none⟩) 24 e1'], .agg #[.slice a3 n3 c3]]) (by kernel_rfl) ((rContains_r (r := false) _ _ _ (g1.ext hE).aa (Ext.refl _) AP hE (hq1)).mono ?_))
        rintro e w81 ⟨rfl, hb⟩
        replace hE := hE.trans hb
        replace bO1_0 := BoxAt.ext hb bO1_0
        replace v14 := v14.ext hb
        replace bO25_0 := BoxAt.ext hb bO25_0
        replace vB := vB.ext hb
        have hs82 := hb.size
        clear hb
        refine ⟨_, rfl, ⟨(hE.cell d1), (hE.cell dp)⟩, ?_⟩
        refine wd_take 10 (.bool true) hR rfl (by kernel_rfl) rfl (by kernel_rfl) (fun w _ => by kernel_rfl) (⟨(hE.cell d1), (hE.cell dp)⟩) ?_
        refine wd_take 11 (.bool true) hR rfl (by kernel_rfl) rfl (by kernel_rfl) (fun w _ => by kernel_rfl) (⟨(hE.cell d1), (hE.cell dp)⟩) ?_
        refine wd_skip 12 hR rfl (by kernel_rfl) rfl (by kernel_rfl) (⟨(hE.cell d1), (hE.cell dp)⟩) ?_
        refine wd_skip 13 hR rfl (by kernel_rfl) rfl (by kernel_rfl) (⟨(hE.cell d1), (hE.cell dp)⟩) ?_
        refine wd_skip 14 hR rfl (by kernel_rfl) rfl (by kernel_rfl) (⟨(hE.cell d1), (hE.cell dp)⟩) ?_
        refine wd_skip 15 hR rfl (by kernel_rfl) rfl (by kernel_rfl) (⟨(hE.cell d1), (hE.cell dp)⟩) ?_
        refine wd_skip 16 hR rfl (by kernel_rfl) rfl (by kernel_rfl) (⟨(hE.cell d1), (hE.cell dp)⟩) ?_
        refine wd_skip 17 hR rfl (by kernel_rfl) rfl (by kernel_rfl) (⟨(hE.cell d1), (hE.cell dp)⟩) ?_
        refine wd_skip 18 hR rfl (by kernel_rfl) rfl (by kernel_rfl) (⟨(hE.cell d1), (hE.cell dp)⟩) ?_
        refine wd_take 19 (.bool true) hR rfl (by kernel_rfl) rfl (by kernel_rfl) (fun w _ => by kernel_rfl) (⟨(hE.cell d1), (hE.cell dp)⟩) ?_
        refine wd_end hL hR hK (by kernel_rfl) ?_
        refine qw_then ?_
        refine cw_clean [1, 2, 7, 8, 52] (ws' := [(1, .slice (some ⟨sb, so, none⟩) n c), (2, .slice (some ⟨pb, po, none⟩) n cp), (7, .pointer (some ⟨O25, 0, none⟩)), (8, .int .i64 (((i : Nat) : Int) : Int)), (52, .bool true)]) (by kernel_rfl) (fun L => ?_)
        refine cw_t (by kernel_rfl) ?_
        refine cw_seq ?_
        refine cw_plain ?_
        refine pl_take (.bool false) rfl (by kernel_rfl) (by kernel_rfl) (by kernel_rfl) (by kernel_rfl) ?_
        refine pl_nil ?_
        refine qw_then ?_
        refine cw_ret ?_
        refine qw_then_ret ?_
        refine qw_block_ret ?_
        refine qw_then_ret ?_
        refine qw_then_ret ?_
        refine qw_block_ret ?_
        refine qw_then_ret ?_
        refine qw_ret [.bool false] rfl ⟨(by kernel_rfl), trivial⟩ ?_
        exact ⟨congrArg (fun b => Ending.returned (Value.bool b)) (by rw [Hck, hck, hq1]; rfl), hE⟩
      ·
        refine cw_draw [(some 33, [1], []), (some 34, [8], []), (some 35, [33, 34], [0, 1]), (some 36, [35], [2]), (some 37, [36], [3]), (some 38, [2], []), (some 39, [8], []), (some 40, [38, 39], [5, 6]), (some 41, [40], [7]), (some 42, [37, 41], [4, 8]), (some 43, [42], [9]), (some 44, [43], [10, 9]), (some 45, [7, 44], [11]), (some 46, [2, 44], [11]), (some 47, [8, 44], [11]), (some 48, [46, 47, 44], [13, 14, 11]), (some 49, [48, 44], [15, 11]), (some 50, [45, 49, 44], [12, 16, 11, 11]), (some 51, [50, 44], [17, 11]), (some 52, [44, 51], [11, 18])] (fun w' => w'.cell? ⟨sb, so + i * 2, none⟩ = some (.slice (some ⟨S1, s1, none⟩) 24 e1') ∧ w'.cell? ⟨pb, po + i, none⟩ = some (.slice a3 n3 c3) ∧ w'.cell? ⟨O25, 0, none⟩ = some (.slice (some ⟨BB, 0, none⟩) 24 kB)) (by kernel_rfl) (by kernel_rfl) (by kernel_rfl) (by kernel_rfl) ((calm_then (calm_then (calm_block (calm_then (calm_then (calm_block (calm_then calm_body)))))))) (⟨(hE.cell d1), (hE.cell dp), bO25_0.1⟩) (fun ops Q X83 hb hL hR hK => ?_)
        replace hE := hE.trans hb
        replace bO1_0 := BoxAt.ext hb bO1_0
        replace v14 := v14.ext hb
        replace bO25_0 := BoxAt.ext hb bO25_0
        replace vB := vB.ext hb
        have hs84 := hb.size
        clear hb
        refine wd_take 0 (.slice (some ⟨sb, so, none⟩) n c) hR rfl (by kernel_rfl) rfl (by kernel_rfl) (fun w _ => by kernel_rfl) (⟨(hE.cell d1), (hE.cell dp), bO25_0.1⟩) ?_
        refine wd_take 1 (.int .i64 (((i : Nat) : Int) : Int)) hR rfl (by kernel_rfl) rfl (by kernel_rfl) (fun w _ => by kernel_rfl) (⟨(hE.cell d1), (hE.cell dp), bO25_0.1⟩) ?_
        refine wd_take 2 (.pointer (some ⟨sb, so + i * 2, none⟩)) hR rfl (by kernel_rfl) rfl (by kernel_rfl) (fun w _ => ex_index (p := .slice (some ⟨sb, so, none⟩) n c) (i := .int .i64 ((i : Nat) : Int)) rfl (by kernel_rfl) (by kernel_rfl) (ix26 (k := i) (by omega))) (⟨(hE.cell d1), (hE.cell dp), bO25_0.1⟩) ?_
        refine wd_take 3 (.pointer (some ⟨sb, so + i * 2, none⟩)) hR rfl (by kernel_rfl) rfl (by kernel_rfl) (fun w _ => by kernel_rfl) (⟨(hE.cell d1), (hE.cell dp), bO25_0.1⟩) ?_
        refine wd_take 4 (.agg #[.slice (some ⟨S1, s1, none⟩) 24 e1']) hR rfl (by kernel_rfl) rfl (by kernel_rfl) (fun w hS => ex_load rfl (by kernel_rfl) (ld25 (hS.1))) (⟨(hE.cell d1), (hE.cell dp), bO25_0.1⟩) ?_
        refine wd_take 5 (.slice (some ⟨pb, po, none⟩) n cp) hR rfl (by kernel_rfl) rfl (by kernel_rfl) (fun w _ => by kernel_rfl) (⟨(hE.cell d1), (hE.cell dp), bO25_0.1⟩) ?_
        refine wd_take 6 (.int .i64 (((i : Nat) : Int) : Int)) hR rfl (by kernel_rfl) rfl (by kernel_rfl) (fun w _ => by kernel_rfl) (⟨(hE.cell d1), (hE.cell dp), bO25_0.1⟩) ?_
        refine wd_take 7 (.pointer (some ⟨pb, po + i, none⟩)) hR rfl (by kernel_rfl) rfl (by kernel_rfl) (fun w _ => ex_index (p := .slice (some ⟨pb, po, none⟩) n cp) (i := .int .i64 ((i : Nat) : Int)) rfl (by kernel_rfl) (by kernel_rfl) (ix34 (k := i) (by omega))) (⟨(hE.cell d1), (hE.cell dp), bO25_0.1⟩) ?_
        refine wd_take 8 (.agg #[.slice a3 n3 c3]) hR rfl (by kernel_rfl) rfl (by kernel_rfl) (fun w hS => ex_load rfl (by kernel_rfl) (ld25 (hS.2.1))) (⟨(hE.cell d1), (hE.cell dp), bO25_0.1⟩) ?_
        refine wd_step 9 hR rfl (by kernel_rfl) (by kernel_rfl) (by kernel_rfl) (sn_call (f := 50) (args := #[.agg #[.slice (some ⟨S1, s1, none⟩) 24 e1'], .agg #[.slice a3 n3 c3]]) (by kernel_rfl) ((rContains_r (r := true) _ _ _ (g1.ext hE).aa (Ext.refl _) AP hE (hq1)).mono ?_))
        rintro e w85 ⟨rfl, hb⟩
        replace hE := hE.trans hb
        replace bO1_0 := BoxAt.ext hb bO1_0
        replace v14 := v14.ext hb
        replace bO25_0 := BoxAt.ext hb bO25_0
        replace vB := vB.ext hb
        have hs86 := hb.size
        clear hb
        refine ⟨_, rfl, ⟨(hE.cell d1), (hE.cell dp), bO25_0.1⟩, ?_⟩
        refine wd_take 10 (.bool false) hR rfl (by kernel_rfl) rfl (by kernel_rfl) (fun w _ => by kernel_rfl) (⟨(hE.cell d1), (hE.cell dp), bO25_0.1⟩) ?_
        refine wd_take 11 (.bool false) hR rfl (by kernel_rfl) rfl (by kernel_rfl) (fun w _ => by kernel_rfl) (⟨(hE.cell d1), (hE.cell dp), bO25_0.1⟩) ?_
        refine wd_take 12 (.agg #[.slice (some ⟨BB, 0, none⟩) 24 kB]) hR rfl (by kernel_rfl) rfl (by kernel_rfl) (fun w hS => ex_load rfl (by kernel_rfl) (ld25 (hS.2.2))) (⟨(hE.cell d1), (hE.cell dp), bO25_0.1⟩) ?_
        refine wd_take 13 (.slice (some ⟨pb, po, none⟩) n cp) hR rfl (by kernel_rfl) rfl (by kernel_rfl) (fun w _ => by kernel_rfl) (⟨(hE.cell d1), (hE.cell dp), bO25_0.1⟩) ?_
        refine wd_take 14 (.int .i64 (((i : Nat) : Int) : Int)) hR rfl (by kernel_rfl) rfl (by kernel_rfl) (fun w _ => by kernel_rfl) (⟨(hE.cell d1), (hE.cell dp), bO25_0.1⟩) ?_
        refine wd_take 15 (.pointer (some ⟨pb, po + i, none⟩)) hR rfl (by kernel_rfl) rfl (by kernel_rfl) (fun w _ => ex_index (p := .slice (some ⟨pb, po, none⟩) n cp) (i := .int .i64 ((i : Nat) : Int)) rfl (by kernel_rfl) (by kernel_rfl) (ix34 (k := i) (by omega))) (⟨(hE.cell d1), (hE.cell dp), bO25_0.1⟩) ?_
        refine wd_take 16 (.agg #[.slice a3 n3 c3]) hR rfl (by kernel_rfl) rfl (by kernel_rfl) (fun w hS => ex_load rfl (by kernel_rfl) (ld25 (hS.2.1))) (⟨(hE.cell d1), (hE.cell dp), bO25_0.1⟩) ?_
        refine wd_step 17 hR rfl (by kernel_rfl) (by kernel_rfl) (by kernel_rfl) (sn_call (f := 50) (args := #[.agg #[.slice (some ⟨BB, 0, none⟩) 24 kB], .agg #[.slice a3 n3 c3]]) (by kernel_rfl) ((rContains_r (r := false) _ _ _ vB.aa (Ext.refl _) AP hE (hq2)).mono ?_))
        rintro e w87 ⟨rfl, hb⟩
        replace hE := hE.trans hb
        replace bO1_0 := BoxAt.ext hb bO1_0
        replace v14 := v14.ext hb
        replace bO25_0 := BoxAt.ext hb bO25_0
        replace vB := vB.ext hb
        have hs88 := hb.size
        clear hb
        refine ⟨_, rfl, ⟨(hE.cell d1), (hE.cell dp), bO25_0.1⟩, ?_⟩
        refine wd_take 18 (.bool true) hR rfl (by kernel_rfl) rfl (by kernel_rfl) (fun w _ => by kernel_rfl) (⟨(hE.cell d1), (hE.cell dp), bO25_0.1⟩) ?_
        refine wd_take 19 (.bool true) hR rfl (by kernel_rfl) rfl (by kernel_rfl) (fun w _ => by kernel_rfl) (⟨(hE.cell d1), (hE.cell dp), bO25_0.1⟩) ?_
        refine wd_end hL hR hK (by kernel_rfl) ?_
        refine qw_then ?_
        refine cw_clean [1, 2, 7, 8, 52] (ws' := [(1, .slice (some ⟨sb, so, none⟩) n c), (2, .slice (some ⟨pb, po, none⟩) n cp), (7, .pointer (some ⟨O25, 0, none⟩)), (8, .int .i64 (((i : Nat) : Int) : Int)), (52, .bool true)]) (by kernel_rfl) (fun L => ?_)
        refine cw_t (by kernel_rfl) ?_
        refine cw_seq ?_
        refine cw_plain ?_
        refine pl_take (.bool false) rfl (by kernel_rfl) (by kernel_rfl) (by kernel_rfl) (by kernel_rfl) ?_
        refine pl_nil ?_
        refine qw_then ?_
        refine cw_ret ?_
        refine qw_then_ret ?_
        refine qw_block_ret ?_
        refine qw_then_ret ?_
        refine qw_then_ret ?_
        refine qw_block_ret ?_
        refine qw_then_ret ?_
        refine qw_ret [.bool false] rfl ⟨(by kernel_rfl), trivial⟩ ?_
        exact ⟨congrArg (fun b => Ending.returned (Value.bool b)) (by rw [Hck, hck, hq1, hq2]; rfl), hE⟩
      ·
        obtain rfl : v3 = true := AP.2.2.2.symm.trans (Globe.contains_v hq1).2
        obtain ⟨pB, pO, rfl, rfl, g3⟩ := AP.va
        refine cw_draw [(some 33, [1], []), (some 34, [8], []), (some 35, [33, 34], [0, 1]), (some 36, [35], [2]), (some 37, [36], [3]), (some 38, [2], []), (some 39, [8], []), (some 40, [38, 39], [5, 6]), (some 41, [40], [7]), (some 42, [37, 41], [4, 8]), (some 43, [42], [9]), (some 44, [43], [10, 9]), (some 45, [7, 44], [11]), (some 46, [2, 44], [11]), (some 47, [8, 44], [11]), (some 48, [46, 47, 44], [13, 14, 11]), (some 49, [48, 44], [15, 11]), (some 50, [45, 49, 44], [12, 16, 11, 11]), (some 51, [50, 44], [17, 11]), (some 52, [44, 51], [11, 18])] (fun w' => w'.cell? ⟨sb, so + i * 2, none⟩ = some (.slice (some ⟨S1, s1, none⟩) 24 e1') ∧ w'.cell? ⟨pb, po + i, none⟩ = some (.slice (some ⟨pB, pO, none⟩) 24 c3) ∧ w'.cell? ⟨O25, 0, none⟩ = some (.slice (some ⟨BB, 0, none⟩) 24 kB)) (by kernel_rfl) (by kernel_rfl) (by kernel_rfl) (by kernel_rfl) ((calm_then (calm_then (calm_block (calm_then (calm_then (calm_block (calm_then calm_body)))))))) (⟨(hE.cell d1), (hE.cell dp), bO25_0.1⟩) (fun ops Q X89 hb hL hR hK => ?_)
        replace hE := hE.trans hb
        replace bO1_0 := BoxAt.ext hb bO1_0
        replace v14 := v14.ext hb
        replace bO25_0 := BoxAt.ext hb bO25_0
        replace vB := vB.ext hb
        have hs90 := hb.size
        clear hb
        refine wd_take 0 (.slice (some ⟨sb, so, none⟩) n c) hR rfl (by kernel_rfl) rfl (by kernel_rfl) (fun w _ => by kernel_rfl) (⟨(hE.cell d1), (hE.cell dp), bO25_0.1⟩) ?_
        refine wd_take 1 (.int .i64 (((i : Nat) : Int) : Int)) hR rfl (by kernel_rfl) rfl (by kernel_rfl) (fun w _ => by kernel_rfl) (⟨(hE.cell d1), (hE.cell dp), bO25_0.1⟩) ?_
        refine wd_take 2 (.pointer (some ⟨sb, so + i * 2, none⟩)) hR rfl (by kernel_rfl) rfl (by kernel_rfl) (fun w _ => ex_index (p := .slice (some ⟨sb, so, none⟩) n c) (i := .int .i64 ((i : Nat) : Int)) rfl (by kernel_rfl) (by kernel_rfl) (ix26 (k := i) (by omega))) (⟨(hE.cell d1), (hE.cell dp), bO25_0.1⟩) ?_
        refine wd_take 3 (.pointer (some ⟨sb, so + i * 2, none⟩)) hR rfl (by kernel_rfl) rfl (by kernel_rfl) (fun w _ => by kernel_rfl) (⟨(hE.cell d1), (hE.cell dp), bO25_0.1⟩) ?_
        refine wd_take 4 (.agg #[.slice (some ⟨S1, s1, none⟩) 24 e1']) hR rfl (by kernel_rfl) rfl (by kernel_rfl) (fun w hS => ex_load rfl (by kernel_rfl) (ld25 (hS.1))) (⟨(hE.cell d1), (hE.cell dp), bO25_0.1⟩) ?_
        refine wd_take 5 (.slice (some ⟨pb, po, none⟩) n cp) hR rfl (by kernel_rfl) rfl (by kernel_rfl) (fun w _ => by kernel_rfl) (⟨(hE.cell d1), (hE.cell dp), bO25_0.1⟩) ?_
        refine wd_take 6 (.int .i64 (((i : Nat) : Int) : Int)) hR rfl (by kernel_rfl) rfl (by kernel_rfl) (fun w _ => by kernel_rfl) (⟨(hE.cell d1), (hE.cell dp), bO25_0.1⟩) ?_
        refine wd_take 7 (.pointer (some ⟨pb, po + i, none⟩)) hR rfl (by kernel_rfl) rfl (by kernel_rfl) (fun w _ => ex_index (p := .slice (some ⟨pb, po, none⟩) n cp) (i := .int .i64 ((i : Nat) : Int)) rfl (by kernel_rfl) (by kernel_rfl) (ix34 (k := i) (by omega))) (⟨(hE.cell d1), (hE.cell dp), bO25_0.1⟩) ?_
        refine wd_take 8 (.agg #[.slice (some ⟨pB, pO, none⟩) 24 c3]) hR rfl (by kernel_rfl) rfl (by kernel_rfl) (fun w hS => ex_load rfl (by kernel_rfl) (ld25 (hS.2.1))) (⟨(hE.cell d1), (hE.cell dp), bO25_0.1⟩) ?_
        refine wd_step 9 hR rfl (by kernel_rfl) (by kernel_rfl) (by kernel_rfl) (sn_call (f := 50) (args := #[.agg #[.slice (some ⟨S1, s1, none⟩) 24 e1'], .agg #[.slice (some ⟨pB, pO, none⟩) 24 c3]]) (by kernel_rfl) ((rContains_r (r := true) _ _ _ (g1.ext hE).aa (Ext.refl _) (g3.ext hE).aa (Ext.refl _) (hq1)).mono ?_))
        rintro e w91 ⟨rfl, hb⟩
        replace hE := hE.trans hb
        replace bO1_0 := BoxAt.ext hb bO1_0
        replace v14 := v14.ext hb
        replace bO25_0 := BoxAt.ext hb bO25_0
        replace vB := vB.ext hb
        have hs92 := hb.size
        clear hb
        refine ⟨_, rfl, ⟨(hE.cell d1), (hE.cell dp), bO25_0.1⟩, ?_⟩
        refine wd_take 10 (.bool false) hR rfl (by kernel_rfl) rfl (by kernel_rfl) (fun w _ => by kernel_rfl) (⟨(hE.cell d1), (hE.cell dp), bO25_0.1⟩) ?_
        refine wd_take 11 (.bool false) hR rfl (by kernel_rfl) rfl (by kernel_rfl) (fun w _ => by kernel_rfl) (⟨(hE.cell d1), (hE.cell dp), bO25_0.1⟩) ?_
        refine wd_take 12 (.agg #[.slice (some ⟨BB, 0, none⟩) 24 kB]) hR rfl (by kernel_rfl) rfl (by kernel_rfl) (fun w hS => ex_load rfl (by kernel_rfl) (ld25 (hS.2.2))) (⟨(hE.cell d1), (hE.cell dp), bO25_0.1⟩) ?_
        refine wd_take 13 (.slice (some ⟨pb, po, none⟩) n cp) hR rfl (by kernel_rfl) rfl (by kernel_rfl) (fun w _ => by kernel_rfl) (⟨(hE.cell d1), (hE.cell dp), bO25_0.1⟩) ?_
        refine wd_take 14 (.int .i64 (((i : Nat) : Int) : Int)) hR rfl (by kernel_rfl) rfl (by kernel_rfl) (fun w _ => by kernel_rfl) (⟨(hE.cell d1), (hE.cell dp), bO25_0.1⟩) ?_
        refine wd_take 15 (.pointer (some ⟨pb, po + i, none⟩)) hR rfl (by kernel_rfl) rfl (by kernel_rfl) (fun w _ => ex_index (p := .slice (some ⟨pb, po, none⟩) n cp) (i := .int .i64 ((i : Nat) : Int)) rfl (by kernel_rfl) (by kernel_rfl) (ix34 (k := i) (by omega))) (⟨(hE.cell d1), (hE.cell dp), bO25_0.1⟩) ?_
        refine wd_take 16 (.agg #[.slice (some ⟨pB, pO, none⟩) 24 c3]) hR rfl (by kernel_rfl) rfl (by kernel_rfl) (fun w hS => ex_load rfl (by kernel_rfl) (ld25 (hS.2.1))) (⟨(hE.cell d1), (hE.cell dp), bO25_0.1⟩) ?_
        refine wd_step 17 hR rfl (by kernel_rfl) (by kernel_rfl) (by kernel_rfl) (sn_call (f := 50) (args := #[.agg #[.slice (some ⟨BB, 0, none⟩) 24 kB], .agg #[.slice (some ⟨pB, pO, none⟩) 24 c3]]) (by kernel_rfl) ((rContains_r (r := true) _ _ _ vB.aa (Ext.refl _) (g3.ext hE).aa (Ext.refl _) (hq2)).mono ?_))
        rintro e w93 ⟨rfl, hb⟩
        replace hE := hE.trans hb
        replace bO1_0 := BoxAt.ext hb bO1_0
        replace v14 := v14.ext hb
        replace bO25_0 := BoxAt.ext hb bO25_0
        replace vB := vB.ext hb
        have hs94 := hb.size
        clear hb
        refine ⟨_, rfl, ⟨(hE.cell d1), (hE.cell dp), bO25_0.1⟩, ?_⟩
        refine wd_take 18 (.bool false) hR rfl (by kernel_rfl) rfl (by kernel_rfl) (fun w _ => by kernel_rfl) (⟨(hE.cell d1), (hE.cell dp), bO25_0.1⟩) ?_
        refine wd_take 19 (.bool false) hR rfl (by kernel_rfl) rfl (by kernel_rfl) (fun w _ => by kernel_rfl) (⟨(hE.cell d1), (hE.cell dp), bO25_0.1⟩) ?_
        refine wd_end hL hR hK (by kernel_rfl) ?_
        refine qw_then ?_
        refine cw_clean [1, 2, 7, 8, 52] (ws' := [(1, .slice (some ⟨sb, so, none⟩) n c), (2, .slice (some ⟨pb, po, none⟩) n cp), (7, .pointer (some ⟨O25, 0, none⟩)), (8, .int .i64 (((i : Nat) : Int) : Int)), (52, .bool false)]) (by kernel_rfl) (fun L => ?_)
        refine cw_f (by kernel_rfl) ?_
        refine cw_skip ?_
        refine qw_then ?_
        refine cw_draw [(some 53, [7], []), (some 54, [2], []), (some 55, [8], []), (some 56, [54, 55], [1, 2]), (some 57, [56], [3]), (some 58, [53, 57], [0, 4]), (none, [7, 58], [5, 5, 0, 1, 2, 3, 4, 5])] (fun w' => w'.cell? ⟨pb, po + i, none⟩ = some (.slice (some ⟨pB, pO, none⟩) 24 c3)) (by kernel_rfl) (by kernel_rfl) (by kernel_rfl) (by kernel_rfl) ((calm_block (calm_then (calm_then (calm_block (calm_then calm_body)))))) ((hE.cell dp)) (fun ops Q X95 hb hL hR hK => ?_)
        replace hE := hE.trans hb
        replace bO1_0 := BoxAt.ext hb bO1_0
        replace v14 := v14.ext hb
        replace bO25_0 := BoxAt.ext hb bO25_0
        replace vB := vB.ext hb
        have hs96 := hb.size
        clear hb
        refine wd_take 1 (.slice (some ⟨pb, po, none⟩) n cp) hR rfl (by kernel_rfl) rfl (by kernel_rfl) (fun w _ => by kernel_rfl) ((hE.cell dp)) ?_
        refine wd_take 2 (.int .i64 (((i : Nat) : Int) : Int)) hR rfl (by kernel_rfl) rfl (by kernel_rfl) (fun w _ => by kernel_rfl) ((hE.cell dp)) ?_
        refine wd_take 3 (.pointer (some ⟨pb, po + i, none⟩)) hR rfl (by kernel_rfl) rfl (by kernel_rfl) (fun w _ => ex_index (p := .slice (some ⟨pb, po, none⟩) n cp) (i := .int .i64 ((i : Nat) : Int)) rfl (by kernel_rfl) (by kernel_rfl) (ix34 (k := i) (by omega))) ((hE.cell dp)) ?_
        refine wd_take 4 (.agg #[.slice (some ⟨pB, pO, none⟩) 24 c3]) hR rfl (by kernel_rfl) rfl (by kernel_rfl) (fun w hS => ex_load rfl (by kernel_rfl) (ld25 (hS))) ((hE.cell dp)) ?_
        refine wd_step 0 hR rfl (by kernel_rfl) (by kernel_rfl) (by kernel_rfl) (sn_eff (v := .agg #[.slice (some ⟨BB, 0, none⟩) 24 kB]) (w' := X95) (ex_load rfl (by kernel_rfl) (ld25 (bO25_0.1))) ⟨(hE.cell dp), ?_⟩)
        refine wd_step 5 hR rfl (by kernel_rfl) (by kernel_rfl) (by kernel_rfl) (sn_call (f := 45) (args := #[.agg #[.slice (some ⟨BB, 0, none⟩) 24 kB], .agg #[.slice (some ⟨pB, pO, none⟩) 24 c3]]) (by kernel_rfl) ((less16_v _ _ _ vB (Ext.refl _) (g3.ext hE) (Ext.refl _)).mono ?_))
        rintro e w101 ⟨B97, k98, rfl, hn100, v99, hb⟩
        replace hE := hE.trans hb
        replace bO1_0 := BoxAt.ext hb bO1_0
        replace v14 := v14.ext hb
        replace bO25_0 := BoxAt.ext hb bO25_0
        replace vB := vB.ext hb
        have hs102 := hb.size
        clear hb
        have lt103 := v99.lt
        refine ⟨_, rfl, (hE.cell dp), ?_⟩
        refine wd_step 6 hR rfl (by kernel_rfl) (by kernel_rfl) (by kernel_rfl) (sn_set (O := O25) (j := 0) (v := .slice (some ⟨B97, 0, none⟩) 24 k98) (ex_store (p := .pointer (some ⟨O25, 0, none⟩)) (v := .agg #[.slice (some ⟨B97, 0, none⟩) 24 k98]) rfl (by kernel_rfl) (by kernel_rfl) (st25 bO25_0.1 bO25_0.2)) bO25_0 ?_)
        intro X104 ho hv0 hk
        replace hE := ho.ext hE (Nat.le_trans (Nat.le_trans hs3 (Nat.le_trans hs6 hs8)) hn68)
        replace bO1_0 := ho.box (Nat.ne_of_gt (Nat.lt_of_lt_of_le lt4 (Nat.le_trans (Nat.le_trans hs6 hs8) hn68))) bO1_0
        replace v14 := ho.va (Ne.symm hn70.out) v14
        replace vB := ho.va hne.out vB
        replace v99 := ho.va (Nat.ne_of_lt (Nat.lt_of_lt_of_le lt74 (Nat.le_trans (Nat.le_trans hs75 (Nat.le_trans hs90 (Nat.le_trans hs92 (Nat.le_trans hs94 hs96)))) hn100))) v99
        have hs105 : w101.heap.size ≤ X104.heap.size := Nat.le_of_eq ho.size.symm
        clear ho hk bO25_0
        have bO25_0 := hv0; clear hv0
        refine ⟨(hE.cell dp), ?_⟩
        refine wd_end hL hR hK (by kernel_rfl) ?_
        refine qw_block ?_
        refine qw_then ?_
        refine cw_plain ?_
        refine pl_take (.int .i64 (((i : Nat) : Int) : Int)) rfl (by kernel_rfl) (by kernel_rfl) (by kernel_rfl) (by kernel_rfl) ?_
        refine pl_take (.int .i64 (((i + 1 : Nat) : Int) : Int)) rfl (by kernel_rfl) (by kernel_rfl) (by kernel_rfl) (ev_wrap (by kernel_rfl) (by omega) (by omega)) ?_
        refine pl_take (.int .i64 (((i + 1 : Nat) : Int) : Int)) rfl (by kernel_rfl) (by kernel_rfl) (by kernel_rfl) (by kernel_rfl) ?_
        refine pl_nil ?_
        refine qw_round [1, 2, 7, 8] (ws' := [(1, .slice (some ⟨sb, so, none⟩) n c), (2, .slice (some ⟨pb, po, none⟩) n cp), (7, .pointer (some ⟨O25, 0, none⟩)), (8, .int .i64 (((i + 1 : Nat) : Int) : Int))]) (by kernel_rfl) _ ?_ ⟨(i + 1), B97, k98, (Globe.lessL T pp), rfl, rfl, (Nat.le_trans hs75 (Nat.le_trans hs90 (Nat.le_trans hs92 (Nat.le_trans hs94 (Nat.le_trans hs96 (Nat.le_trans hs102 hs105)))))), hE, bO1_0, v14, bO25_0, v99, by omega, (by rw [Hck, hck, hq1, hq2]; rfl), Lib.hid (Nat.ne_of_lt (Nat.lt_of_lt_of_le lt74 (Nat.le_trans (Nat.le_trans hs75 (Nat.le_trans hs90 (Nat.le_trans hs92 (Nat.le_trans hs94 hs96)))) hn100)))⟩
        omega
    ·
      have hin : i = n := by omega
      have hck : Globe.checkL T ((ss.map fun s => s.1).drop i) (ps.drop i) = decide (Globe.countL T = 0) := by rw [hin, check_end (by rw [List.length_map, hln]) hlp]; unfold Globe.countL Globe.cellsL; rw [vB.2]; rfl
      have hcb := Globe.countL_le T
      refine cw_seq ?_
      refine cw_seq ?_
      refine cw_plain ?_
      refine pl_take (.int .i64 (((i : Nat) : Int) : Int)) rfl (by kernel_rfl) (by kernel_rfl) (by kernel_rfl) (by kernel_rfl) ?_
      refine pl_take (.slice a n c) rfl (by kernel_rfl) (by kernel_rfl) (by kernel_rfl) (by kernel_rfl) ?_
      refine pl_take (.int .i64 (((n : Nat) : Int) : Int)) rfl (by kernel_rfl) (by kernel_rfl) (by kernel_rfl) (by kernel_rfl) ?_
      refine pl_take (.bool false) rfl (by kernel_rfl) (by kernel_rfl) (by kernel_rfl) (ev_ndec (show _ = Result.ok (Next.value (Value.bool (decide ((((i : Nat) : Int) : Int) < (((n : Nat) : Int) : Int))))) _ from by kernel_rfl) (by omega)) ?_
      refine pl_nil ?_
      refine qw_then ?_
      refine cw_f (by kernel_rfl) ?_
      refine cw_exit ?_
      refine qw_then_exit ?_
      refine qw_then_exit ?_
      refine qw_block_out ?_
      refine qw_then ?_
      refine cw_seq ?_
      refine cw_plain ?_
      refine pl_take (.agg #[.slice (some ⟨BB, 0, none⟩) 24 kB]) rfl (by kernel_rfl) (by kernel_rfl) (by kernel_rfl) (ex_load rfl (by kernel_rfl) (ld25 (bO25_0.1))) ?_
      refine pl_step rfl (by kernel_rfl) (by kernel_rfl) (by kernel_rfl) (sn_call (f := 51) (args := #[.agg #[.slice (some ⟨BB, 0, none⟩) 24 kB]]) (by kernel_rfl) ((rCount_c _ _ vB.aa (Ext.refl _)).mono ?_))
      rintro e w106 ⟨rfl, hb⟩
      replace hE := hE.trans hb
      replace bO1_0 := BoxAt.ext hb bO1_0
      replace v14 := v14.ext hb
      replace bO25_0 := BoxAt.ext hb bO25_0
      replace vB := vB.ext hb
      have hs107 := hb.size
      clear hb
      refine ⟨_, rfl, ?_⟩
      by_cases hc108 : (((Globe.countL T : Nat) : Int) : Int) = (0 : Int)
      ·
        refine pl_take (.bool true) rfl (by kernel_rfl) (by kernel_rfl) (by kernel_rfl) (ev_eq (show _ = Result.ok (Next.value (Value.bool ((((Globe.countL T : Nat) : Int) : Int) == (0 : Int)))) _ from by kernel_rfl) (hc108)) ?_
        refine pl_take (.bool true) rfl (by kernel_rfl) (by kernel_rfl) (by kernel_rfl) (by kernel_rfl) ?_
        refine pl_nil ?_
        refine qw_then ?_
        refine cw_ret ?_
        refine qw_ret [.bool true] rfl ⟨(by kernel_rfl), trivial⟩ ?_
        exact ⟨congrArg (fun b => Ending.returned (Value.bool b)) ((Hck.trans hck).trans (decide_eq_true (by omega))).symm, hE⟩
      ·
        refine pl_take (.bool false) rfl (by kernel_rfl) (by kernel_rfl) (by kernel_rfl) (ev_neq (show _ = Result.ok (Next.value (Value.bool ((((Globe.countL T : Nat) : Int) : Int) == (0 : Int)))) _ from by kernel_rfl) (hc108)) ?_
        refine pl_take (.bool false) rfl (by kernel_rfl) (by kernel_rfl) (by kernel_rfl) (by kernel_rfl) ?_
        refine pl_nil ?_
        refine qw_then ?_
        refine cw_ret ?_
        refine qw_ret [.bool false] rfl ⟨(by kernel_rfl), trivial⟩ ?_
        exact ⟨congrArg (fun b => Ending.returned (Value.bool b)) ((Hck.trans hck).trans (decide_eq_false (by omega))).symm, hE⟩
set_option maxRecDepth 1000000 in
set_option maxHeartbeats 4000000 in
theorem rCheck_n {w1 w2 : World} {a a1 ap : Option Addr} {n n1 np : Nat} {ss : List (List Int × List Int)} {l : List Int} {v : Bool} (c k cp : Nat) (w : World) (hl : AA w1 a1 l n1 v) (e1 : Ext w1 w) (h : StripsAt w2 a n ss) (e2 : Ext w2 w) (hno : (decide (np = n) && (v && Globe.stripsOk ss)) = false) :
    Calls Tryd.prog 24 #[.agg #[.slice a1 n1 k], .slice a n c, .slice ap np cp] w fun e w' => e = .returned (.bool false) ∧ Ext w w' := by
  have hA := hl.ext e1; have hS := h.ext e2; have hln := h.1; have hnb := h.2.1
  refine calls_cw 62 [(2, .slice ap np cp), (1, .slice a n c), (0, .agg #[.slice a1 n1 k])] Tryd.func24 rfl Tryd.ntmps24 (by kernel_rfl) (by kernel_rfl) (fun L => ?_)
  have hE : Ext w w := Ext.refl w
  refine cw_seq ?_
  refine cw_plain ?_
  refine pl_step rfl (by kernel_rfl) (by kernel_rfl) (by kernel_rfl) (sn_new (us := #[.slice a1 n1 k]) (t := 25) (by kernel_rfl) ?_)
  intro O1 X2 hO hOs hb hbx
  have hzO1 := hO; have hyO1 := hOs; clear hO hOs
  have bO1_0 : BoxAt X2 O1 0 (.slice a1 n1 k) := hbx 0 _ rfl
  clear hbx
  replace hE := hE.trans hb
  have hs3 := hb.size
  clear hb
  have lt4 := bO1_0.lt
  refine pl_take (.bool false) rfl (by kernel_rfl) (by kernel_rfl) (by kernel_rfl) (by kernel_rfl) ?_
  refine pl_nil ?_
  refine qw_then ?_
  refine cw_seq ?_
  refine cw_seq ?_
  rcases b4 hno with rfl | ⟨rfl, hok⟩ | ⟨rfl, hok, hnq⟩
  ·
    refine cw_plain ?_
    refine pl_take (.agg #[.slice a1 n1 k]) rfl (by kernel_rfl) (by kernel_rfl) (by kernel_rfl) (ex_load rfl (by kernel_rfl) (ld25 (bO1_0.1))) ?_
    refine pl_step rfl (by kernel_rfl) (by kernel_rfl) (by kernel_rfl) (sn_call (f := 44) (args := #[.agg #[.slice a1 n1 k]]) (by kernel_rfl) ((rValid_c _ _ hA hE).mono ?_))
    rintro e w5 ⟨rfl, hb⟩
    replace hE := hE.trans hb
    replace bO1_0 := BoxAt.ext hb bO1_0
    have hs6 := hb.size
    clear hb
    refine ⟨_, rfl, ?_⟩
    refine pl_take (.bool true) rfl (by kernel_rfl) (by kernel_rfl) (by kernel_rfl) (by kernel_rfl) ?_
    refine pl_take (.bool true) rfl (by kernel_rfl) (by kernel_rfl) (by kernel_rfl) (by kernel_rfl) ?_
    refine pl_skip rfl (by kernel_rfl) (by kernel_rfl) (by kernel_rfl) ?_
    refine pl_skip rfl (by kernel_rfl) (by kernel_rfl) (by kernel_rfl) ?_
    refine pl_skip rfl (by kernel_rfl) (by kernel_rfl) (by kernel_rfl) ?_
    refine pl_take (.bool true) rfl (by kernel_rfl) (by kernel_rfl) (by kernel_rfl) (by kernel_rfl) ?_
    refine pl_take (.bool true) rfl (by kernel_rfl) (by kernel_rfl) (by kernel_rfl) (by kernel_rfl) ?_
    refine pl_skip rfl (by kernel_rfl) (by kernel_rfl) (by kernel_rfl) ?_
    refine pl_skip rfl (by kernel_rfl) (by kernel_rfl) (by kernel_rfl) ?_
    refine pl_skip rfl (by kernel_rfl) (by kernel_rfl) (by kernel_rfl) ?_
    refine pl_skip rfl (by kernel_rfl) (by kernel_rfl) (by kernel_rfl) ?_
    refine pl_skip rfl (by kernel_rfl) (by kernel_rfl) (by kernel_rfl) ?_
    refine pl_take (.bool true) rfl (by kernel_rfl) (by kernel_rfl) (by kernel_rfl) (by kernel_rfl) ?_
    refine pl_nil ?_
    refine qw_then ?_
    refine cw_clean [1, 2, 3, 23] (ws' := [(1, .slice a n c), (2, .slice ap np cp), (3, .pointer (some ⟨O1, 0, none⟩)), (23, .bool true)]) (by kernel_rfl) (fun L => ?_)
    refine cw_t (by kernel_rfl) ?_
    refine cw_seq ?_
    refine cw_plain ?_
    refine pl_take (.bool false) rfl (by kernel_rfl) (by kernel_rfl) (by kernel_rfl) (by kernel_rfl) ?_
    refine pl_nil ?_
    refine qw_then ?_
    refine cw_ret ?_
    refine qw_then_ret ?_
    refine qw_ret [.bool false] rfl ⟨(by kernel_rfl), trivial⟩ ?_
    exact ⟨rfl, hE⟩
  ·
    refine cw_plain ?_
    refine pl_take (.agg #[.slice a1 n1 k]) rfl (by kernel_rfl) (by kernel_rfl) (by kernel_rfl) (ex_load rfl (by kernel_rfl) (ld25 (bO1_0.1))) ?_
    refine pl_step rfl (by kernel_rfl) (by kernel_rfl) (by kernel_rfl) (sn_call (f := 44) (args := #[.agg #[.slice a1 n1 k]]) (by kernel_rfl) ((rValid_c _ _ hA hE).mono ?_))
    rintro e w7 ⟨rfl, hb⟩
    replace hE := hE.trans hb
    replace bO1_0 := BoxAt.ext hb bO1_0
    have hs8 := hb.size
    clear hb
    refine ⟨_, rfl, ?_⟩
    refine pl_take (.bool false) rfl (by kernel_rfl) (by kernel_rfl) (by kernel_rfl) (by kernel_rfl) ?_
    refine pl_take (.bool false) rfl (by kernel_rfl) (by kernel_rfl) (by kernel_rfl) (by kernel_rfl) ?_
    refine pl_take (.slice a n c) rfl (by kernel_rfl) (by kernel_rfl) (by kernel_rfl) (by kernel_rfl) ?_
    refine pl_step rfl (by kernel_rfl) (by kernel_rfl) (by kernel_rfl) (sn_call (f := 20) (args := #[.slice a n c]) (by kernel_rfl) ((rValidS_r (r := false) _ _ hS hE (hok)).mono ?_))
    rintro e w9 ⟨rfl, hb⟩
    replace hE := hE.trans hb
    replace bO1_0 := BoxAt.ext hb bO1_0
    have hs10 := hb.size
    clear hb
    refine ⟨_, rfl, ?_⟩
    refine pl_take (.bool true) rfl (by kernel_rfl) (by kernel_rfl) (by kernel_rfl) (by kernel_rfl) ?_
    refine pl_take (.bool true) rfl (by kernel_rfl) (by kernel_rfl) (by kernel_rfl) (by kernel_rfl) ?_
    refine pl_take (.bool true) rfl (by kernel_rfl) (by kernel_rfl) (by kernel_rfl) (by kernel_rfl) ?_
    refine pl_skip rfl (by kernel_rfl) (by kernel_rfl) (by kernel_rfl) ?_
    refine pl_skip rfl (by kernel_rfl) (by kernel_rfl) (by kernel_rfl) ?_
    refine pl_skip rfl (by kernel_rfl) (by kernel_rfl) (by kernel_rfl) ?_
    refine pl_skip rfl (by kernel_rfl) (by kernel_rfl) (by kernel_rfl) ?_
    refine pl_skip rfl (by kernel_rfl) (by kernel_rfl) (by kernel_rfl) ?_
    refine pl_take (.bool true) rfl (by kernel_rfl) (by kernel_rfl) (by kernel_rfl) (by kernel_rfl) ?_
    refine pl_nil ?_
    refine qw_then ?_
    refine cw_clean [1, 2, 3, 23] (ws' := [(1, .slice a n c), (2, .slice ap np cp), (3, .pointer (some ⟨O1, 0, none⟩)), (23, .bool true)]) (by kernel_rfl) (fun L => ?_)
    refine cw_t (by kernel_rfl) ?_
    refine cw_seq ?_
    refine cw_plain ?_
    refine pl_take (.bool false) rfl (by kernel_rfl) (by kernel_rfl) (by kernel_rfl) (by kernel_rfl) ?_
    refine pl_nil ?_
    refine qw_then ?_
    refine cw_ret ?_
    refine qw_then_ret ?_
    refine qw_ret [.bool false] rfl ⟨(by kernel_rfl), trivial⟩ ?_
    exact ⟨rfl, hE⟩
  ·
    refine cw_plain ?_
    refine pl_take (.agg #[.slice a1 n1 k]) rfl (by kernel_rfl) (by kernel_rfl) (by kernel_rfl) (ex_load rfl (by kernel_rfl) (ld25 (bO1_0.1))) ?_
    refine pl_step rfl (by kernel_rfl) (by kernel_rfl) (by kernel_rfl) (sn_call (f := 44) (args := #[.agg #[.slice a1 n1 k]]) (by kernel_rfl) ((rValid_c _ _ hA hE).mono ?_))
    rintro e w11 ⟨rfl, hb⟩
    replace hE := hE.trans hb
    replace bO1_0 := BoxAt.ext hb bO1_0
    have hs12 := hb.size
    clear hb
    refine ⟨_, rfl, ?_⟩
    refine pl_take (.bool false) rfl (by kernel_rfl) (by kernel_rfl) (by kernel_rfl) (by kernel_rfl) ?_
    refine pl_take (.bool false) rfl (by kernel_rfl) (by kernel_rfl) (by kernel_rfl) (by kernel_rfl) ?_
    refine pl_take (.slice a n c) rfl (by kernel_rfl) (by kernel_rfl) (by kernel_rfl) (by kernel_rfl) ?_
    refine pl_step rfl (by kernel_rfl) (by kernel_rfl) (by kernel_rfl) (sn_call (f := 20) (args := #[.slice a n c]) (by kernel_rfl) ((rValidS_r (r := true) _ _ hS hE (hok)).mono ?_))
    rintro e w13 ⟨rfl, hb⟩
    replace hE := hE.trans hb
    replace bO1_0 := BoxAt.ext hb bO1_0
    have hs14 := hb.size
    clear hb
    refine ⟨_, rfl, ?_⟩
    refine pl_take (.bool false) rfl (by kernel_rfl) (by kernel_rfl) (by kernel_rfl) (by kernel_rfl) ?_
    refine pl_take (.bool false) rfl (by kernel_rfl) (by kernel_rfl) (by kernel_rfl) (by kernel_rfl) ?_
    refine pl_take (.bool false) rfl (by kernel_rfl) (by kernel_rfl) (by kernel_rfl) (by kernel_rfl) ?_
    refine pl_take (.slice ap np cp) rfl (by kernel_rfl) (by kernel_rfl) (by kernel_rfl) (by kernel_rfl) ?_
    refine pl_take (.int .i64 (((np : Nat) : Int) : Int)) rfl (by kernel_rfl) (by kernel_rfl) (by kernel_rfl) (by kernel_rfl) ?_
    refine pl_take (.slice a n c) rfl (by kernel_rfl) (by kernel_rfl) (by kernel_rfl) (by kernel_rfl) ?_
    refine pl_take (.int .i64 (((n : Nat) : Int) : Int)) rfl (by kernel_rfl) (by kernel_rfl) (by kernel_rfl) (by kernel_rfl) ?_
    refine pl_take (.bool true) rfl (by kernel_rfl) (by kernel_rfl) (by kernel_rfl) (ev_ne (show _ = Result.ok (Next.value (Value.bool ((((np : Nat) : Int) : Int) != (((n : Nat) : Int) : Int)))) _ from by kernel_rfl) (by omega)) ?_
    refine pl_take (.bool true) rfl (by kernel_rfl) (by kernel_rfl) (by kernel_rfl) (by kernel_rfl) ?_
    refine pl_nil ?_
    refine qw_then ?_
    refine cw_clean [1, 2, 3, 23] (ws' := [(1, .slice a n c), (2, .slice ap np cp), (3, .pointer (some ⟨O1, 0, none⟩)), (23, .bool true)]) (by kernel_rfl) (fun L => ?_)
    refine cw_t (by kernel_rfl) ?_
    refine cw_seq ?_
    refine cw_plain ?_
    refine pl_take (.bool false) rfl (by kernel_rfl) (by kernel_rfl) (by kernel_rfl) (by kernel_rfl) ?_
    refine pl_nil ?_
    refine qw_then ?_
    refine cw_ret ?_
    refine qw_then_ret ?_
    refine qw_ret [.bool false] rfl ⟨(by kernel_rfl), trivial⟩ ?_
    exact ⟨rfl, hE⟩
theorem rCheck_c {w1 w2 w3 : World} {a a1 ap : Option Addr} {n n1 np : Nat} {ss : List (List Int × List Int)} {ps : List (List Int)} {l : List Int} {v : Bool} (c k cp : Nat) (w : World) (hl : AA w1 a1 l n1 v) (e1 : Ext w1 w) (h : StripsAt w2 a n ss) (e2 : Ext w2 w) (hp : AreasAt w3 ap np ps) (e3 : Ext w3 w) :
    Calls Tryd.prog 24 #[.agg #[.slice a1 n1 k], .slice a n c, .slice ap np cp] w fun e w' => e = .returned (.bool (checkB l ss ps)) ∧ Ext w w' := by
  have hv := hl.2.2.2
  have hlen := h.1
  have hlp := hp.1
  unfold checkB
  rw [hv, hlen, hlp]
  cases hq : (decide (np = n) && (v && Globe.stripsOk ss))
  · rw [← Bool.and_assoc v, ← Bool.and_assoc, hq, Bool.false_and]
    exact rCheck_n c k cp w hl e1 h e2 hq
  · simp only [Bool.and_eq_true, decide_eq_true_eq] at hq
    obtain ⟨rfl, rfl, hok⟩ := hq
    obtain ⟨b, o, rfl, rfl, r⟩ := hl.va
    rw [hok, decide_eq_true rfl, Bool.true_and, Bool.true_and, Bool.true_and]
    exact rCheck_v c k cp w r e1 h e2 hok hp e3

end Go.Proofs.YtglfoglkdbbmmaaDoor

/- Contract of the reference of package cover: Covers. -/
namespace Go.Proofs.YtglfoglkdbbmmaaDoor
open Go.RowKit Go.Shelf

namespace Globe
/-- What a set of strips, by their bits, leaves of a row. -/
def cvRow (LA : List Int) (Ss : List (List Int)) (S y : Nat) : Nat → Nat
  | 0 => rowN LA y
  | i + 1 => if S.testBit i then lessN (cvRow LA Ss S y i) (rowN (sureAt Ss i) y) else cvRow LA Ss S y i
def coversB (LA : List Int) (Ss : List (List Int)) (S n : Nat) : Bool := (List.range 24).all fun y => decide (cvRow LA Ss S y n = 0)
theorem cvRow_lt {LA : List Int} (h : validL LA = true) {Ss : List (List Int)} (S y : Nat) : ∀ i, cvRow LA Ss S y i < 281474976710656
  | 0 => rowN_lt h y
  | i + 1 => by
    rw [cvRow]
    split
    · exact lessN_lt (cvRow_lt h S y i)
    · exact cvRow_lt h S y i
theorem bit_one {S i : Nat} (h : S.testBit i = true) : S / 2 ^ i % 2 = 1 := by rw [testBit_div, h]; rfl
theorem bit_of_one {S i : Nat} (h : S / 2 ^ i % 2 = 1) : S.testBit i = true := by
  rw [testBit_div] at h
  cases hq : S.testBit i
  · rw [hq] at h; cases h
  · rfl
theorem covers_yes {LA : List Int} {Ss : List (List Int)} {S n : Nat} (h : ∀ j, j < 24 → cvRow LA Ss S j n = 0) : coversB LA Ss S n = true :=
  List.all_eq_true.2 fun j hj => decide_eq_true (h j (List.mem_range.1 hj))
theorem covers_no {LA : List Int} {Ss : List (List Int)} {S n y : Nat} (hy : y < 24) (h : cvRow LA Ss S y n ≠ 0) : coversB LA Ss S n = false := by
  cases hq : coversB LA Ss S n
  · rfl
  · exact absurd (of_decide_eq_true (List.all_eq_true.1 hq y (List.mem_range.2 hy))) h
theorem cv_bit {LA : List Int} {Ss : List (List Int)} {S y x : Nat} : ∀ i, (cvRow LA Ss S y i).testBit x = (hasL LA x y && (List.range i).all fun j => !(S.testBit j && hasL (sureAt Ss j) x y))
  | 0 => by rw [cvRow, rowN_bit]; simp
  | i + 1 => by
    rw [List.range_succ, List.all_append, cvRow]
    cases h : S.testBit i
    · simp only [Bool.false_eq_true, if_false]; rw [cv_bit i]; simp [h]
    · simp only [if_true]; rw [lessN_bit, cv_bit i, rowN_bit]; simp [h, Bool.and_assoc]
/-- The indices of a set, ascending. -/
def bitsL (S n : Nat) : List Nat := (List.range n).filter fun i => S.testBit i
theorem asc_filter (n : Nat) (p : Nat → Bool) : ∀ (k s : Nat), s + k = n → asc n s (((List.range n).drop s).filter p)
  | 0, s, h => by rw [range_drop_ge (by omega)]; trivial
  | k + 1, s, h => by
    rw [range_drop (by omega), List.filter_cons]
    split
    · exact ⟨Nat.le_refl _, by omega, asc_filter n p k (s + 1) (by omega)⟩
    · exact asc_mono (asc_filter n p k (s + 1) (by omega)) (by omega)
theorem bits_asc (S n : Nat) : asc n 0 (bitsL S n) := by have := asc_filter n (fun i => S.testBit i) n 0 (by omega); rwa [List.drop_zero] at this
theorem covers_enough {LA : List Int} (h : validL LA = true) {Ss : List (List Int)} {S n : Nat} : coversB LA Ss S n = enough LA Ss (bitsL S n) := by
  rw [Bool.eq_iff_iff, enough_iff h]
  constructor
  · intro hc x y hx hy hh
    have h0 := of_decide_eq_true (List.all_eq_true.1 hc y (List.mem_range.2 hy))
    have hb := cv_bit (LA := LA) (Ss := Ss) (S := S) (y := y) (x := x) n
    rw [h0, Nat.zero_testBit, hh, Bool.true_and] at hb
    obtain ⟨j, hj, hq⟩ := List.all_eq_false.1 hb.symm
    have hq2 : (S.testBit j && hasL (sureAt Ss j) x y) = true := by simpa using hq
    obtain ⟨q1, q2⟩ := Bool.and_eq_true_iff.1 hq2
    exact ⟨j, List.mem_filter.2 ⟨hj, q1⟩, q2⟩
  · intro hc
    refine covers_yes fun y hy => Nat.eq_of_testBit_eq fun x => ?_
    rw [Nat.zero_testBit, cv_bit]
    cases hh : hasL LA x y
    · rfl
    · by_cases hx : x < 48
      · obtain ⟨j, hj, hq⟩ := hc x y hx hy hh
        obtain ⟨q1, q2⟩ := List.mem_filter.1 hj
        rw [Bool.true_and, List.all_eq_false]
        exact ⟨j, q1, by rw [q2, hq]; simp⟩
      · rw [has_hi h (by omega)] at hh; cases hh
end Globe

set_option maxRecDepth 1000000 in
set_option maxHeartbeats 4000000 in
theorem Covers_c {w1 w2 : World} {b o : Nat} (c cl : Nat) {LA : List Int} {a : Option Addr} {n : Nat} {ss : List (List Int × List Int)} {S : Nat} (w : World) (hl : VA w1 b o LA) (e1 : Ext w1 w) (h : StripsAt w2 a n ss) (e2 : Ext w2 w) (hok : Globe.stripsOk ss = true) (hn : n ≤ 12) :
    Calls Tryd.prog 30 #[.agg #[.slice (some ⟨b, o, none⟩) 24 c], .slice a n cl, .int .i64 (S : Int)] w fun e w' => e = .returned (.bool (Globe.coversB LA (ss.map fun s => s.1) S n)) ∧ Ext w w' := by
  have hA := hl.ext e1; have hS := h.ext e2
  refine calls_cw 43 [(2, .int .i64 (((S : Nat) : Int) : Int)), (1, .slice a n cl), (0, .agg #[.slice (some ⟨b, o, none⟩) 24 c])] Tryd.func30 rfl Tryd.ntmps30 (by kernel_rfl) (by kernel_rfl) (fun L => ?_)
  have hE : Ext w w := Ext.refl w
  refine cw_seq ?_
  refine cw_plain ?_
  refine pl_step rfl (by kernel_rfl) (by kernel_rfl) (by kernel_rfl) (sn_new (us := #[.slice (some ⟨b, o, none⟩) 24 c]) (t := 25) (by kernel_rfl) ?_)
  intro O1 X2 hO hOs hb hbx
  have hzO1 := hO; have hyO1 := hOs; clear hO hOs
  have bO1_0 : BoxAt X2 O1 0 (.slice (some ⟨b, o, none⟩) 24 c) := hbx 0 _ rfl
  clear hbx
  replace hE := hE.trans hb
  have hs3 := hb.size
  clear hb
  have lt4 := bO1_0.lt
  refine pl_take (.bool false) rfl (by kernel_rfl) (by kernel_rfl) (by kernel_rfl) (by kernel_rfl) ?_
  refine pl_nil ?_
  refine qw_then ?_
  refine cw_seq ?_
  refine cw_seq ?_
  refine cw_plain ?_
  refine pl_take (.int .i64 0) rfl (by kernel_rfl) (by kernel_rfl) (by kernel_rfl) (by kernel_rfl) ?_
  refine pl_nil ?_
  refine qw_then ?_
  refine cw_block ?_
  have hX5 : Ext X2 X2 := Ext.refl _
  refine cw_loop [1, 2, 3, 7] (fun ws' wr m => ∃ y : Nat, ws' = [(1, .slice a n cl), (2, .int .i64 (((S : Nat) : Int) : Int)), (3, .pointer (some ⟨O1, 0, none⟩)), (7, .int .i64 (((y : Nat) : Int) : Int))] ∧ m = 24 - y ∧ X2.heap.size ≤ wr.heap.size ∧ Ext w wr ∧ Ext X2 wr ∧ y ≤ 24 ∧ ∀ j, j < y → Globe.cvRow LA (ss.map fun s => s.1) S j n = 0) (ws0 := [(1, .slice a n cl), (2, .int .i64 (((S : Nat) : Int) : Int)), (3, .pointer (some ⟨O1, 0, none⟩)), (7, .int .i64 0)]) (by kernel_rfl) _ ⟨0, rfl, rfl, Nat.le_refl _, hE, hX5, by omega, (fun j hj => absurd hj (Nat.not_lt_zero j))⟩ ?_
  clear hE hX5
  rintro m8 L ws w7 ⟨y, rfl, rfl, hs6, hE, hX5, hy, hall⟩
  by_cases hlt : y < 24
  ·
    refine cw_seq ?_
    refine cw_seq ?_
    refine cw_plain ?_
    refine pl_take (.int .i64 (((y : Nat) : Int) : Int)) rfl (by kernel_rfl) (by kernel_rfl) (by kernel_rfl) (by kernel_rfl) ?_
    by_cases hc9 : (((y : Nat) : Int) : Int) < (24 : Int)
    ·
      refine pl_take (.bool true) rfl (by kernel_rfl) (by kernel_rfl) (by kernel_rfl) (ev_dec (show _ = Result.ok (Next.value (Value.bool (decide ((((y : Nat) : Int) : Int) < (24 : Int))))) _ from by kernel_rfl) (hc9)) ?_
      refine pl_nil ?_
      refine qw_then ?_
      refine cw_t (by kernel_rfl) ?_
      refine cw_skip ?_
      refine qw_then ?_
      refine cw_seq ?_
      refine cw_block ?_
      refine cw_seq ?_
      refine cw_plain ?_
      refine pl_take (.pointer (some ⟨O1, 0, none⟩)) rfl (by kernel_rfl) (by kernel_rfl) (by kernel_rfl) (by kernel_rfl) ?_
      refine pl_take (.slice (some ⟨b, o, none⟩) 24 c) rfl (by kernel_rfl) (by kernel_rfl) (by kernel_rfl) (ex_load rfl (by kernel_rfl) (ld23 ((BoxAt.ext hX5 bO1_0).1))) ?_
      refine pl_take (.int .i64 (((y : Nat) : Int) : Int)) rfl (by kernel_rfl) (by kernel_rfl) (by kernel_rfl) (by kernel_rfl) ?_
      refine pl_take (.pointer (some ⟨b, o + y, none⟩)) rfl (by kernel_rfl) (by kernel_rfl) (by kernel_rfl) (ex_index (p := .slice (some ⟨b, o, none⟩) 24 c) (i := .int .i64 ((y : Nat) : Int)) rfl (by kernel_rfl) (by kernel_rfl) (ix23 (k := y) (by omega))) ?_
      refine pl_take (.int .i64 (((Globe.rowN LA y : Nat) : Int) : Int)) rfl (by kernel_rfl) (by kernel_rfl) (by kernel_rfl) (ex_load rfl (by kernel_rfl) (ld3 ((hA.ext hE).cell (y := y) (by omega)))) ?_
      refine pl_take (.int .i64 (((Globe.rowN LA y : Nat) : Int) : Int)) rfl (by kernel_rfl) (by kernel_rfl) (by kernel_rfl) (by kernel_rfl) ?_
      refine pl_nil ?_
      refine qw_then ?_
      refine cw_seq ?_
      refine cw_seq ?_
      refine cw_plain ?_
      refine pl_take (.int .i64 0) rfl (by kernel_rfl) (by kernel_rfl) (by kernel_rfl) (by kernel_rfl) ?_
      refine pl_nil ?_
      refine qw_then ?_
      refine cw_block ?_
      refine cw_loop [1, 2, 3, 7, 8, 9] (fun ws' wr m => ∃ i : Nat, ws' = [(1, .slice a n cl), (2, .int .i64 (((S : Nat) : Int) : Int)), (3, .pointer (some ⟨O1, 0, none⟩)), (7, .int .i64 (((y : Nat) : Int) : Int)), (8, .int .i64 (((Globe.cvRow LA (ss.map fun s => s.1) S y i : Nat) : Int) : Int)), (9, .int .i64 (((i : Nat) : Int) : Int))] ∧ m = n - i ∧ w7.heap.size ≤ wr.heap.size ∧ Ext w wr ∧ Ext X2 wr ∧ i ≤ n) (ws0 := [(1, .slice a n cl), (2, .int .i64 (((S : Nat) : Int) : Int)), (3, .pointer (some ⟨O1, 0, none⟩)), (7, .int .i64 (((y : Nat) : Int) : Int)), (8, .int .i64 (((Globe.rowN LA y : Nat) : Int) : Int)), (9, .int .i64 0)]) (by kernel_rfl) _ ⟨0, rfl, rfl, Nat.le_refl _, hE, hX5, by omega⟩ ?_
      clear hE hX5
      rintro m12 L ws w11 ⟨i, rfl, rfl, hs10, hE, hX5, hi⟩
      by_cases hlt : i < n
      ·
        obtain ⟨sb, so, s, rfl, hs, hst⟩ := hS.at hlt
        obtain ⟨q1', q2', q3'⟩ := okS_at hok hs
        obtain ⟨S1, s1, e1, S2, s2, e2, d1, d2, g1, g2⟩ := hst.v q1' q2'
        have hsu : Globe.sureAt (ss.map fun s => s.1) i = s.1 := by unfold Globe.sureAt; rw [List.getElem?_map, hs]; rfl
        have hr1 := Globe.rowN_lt q1' y; have hr2 := Globe.cvRow_lt hA.2 (Ss := ss.map fun s => s.1) S y i
        refine cw_seq ?_
        refine cw_seq ?_
        refine cw_plain ?_
        refine pl_take (.int .i64 (((i : Nat) : Int) : Int)) rfl (by kernel_rfl) (by kernel_rfl) (by kernel_rfl) (by kernel_rfl) ?_
        refine pl_take (.slice (some ⟨sb, so, none⟩) n cl) rfl (by kernel_rfl) (by kernel_rfl) (by kernel_rfl) (by kernel_rfl) ?_
        refine pl_take (.int .i64 (((n : Nat) : Int) : Int)) rfl (by kernel_rfl) (by kernel_rfl) (by kernel_rfl) (by kernel_rfl) ?_
        refine pl_take (.bool true) rfl (by kernel_rfl) (by kernel_rfl) (by kernel_rfl) (ev_dec (show _ = Result.ok (Next.value (Value.bool (decide ((((i : Nat) : Int) : Int) < (((n : Nat) : Int) : Int))))) _ from by kernel_rfl) (by omega)) ?_
        refine pl_nil ?_
        refine qw_then ?_
        refine cw_t (by kernel_rfl) ?_
        refine cw_skip ?_
        refine qw_then ?_
        refine cw_seq ?_
        refine cw_block ?_
        refine cw_seq ?_
        refine cw_plain ?_
        refine pl_take (.int .i64 (((S : Nat) : Int) : Int)) rfl (by kernel_rfl) (by kernel_rfl) (by kernel_rfl) (by kernel_rfl) ?_
        refine pl_take (.int .i64 (((i : Nat) : Int) : Int)) rfl (by kernel_rfl) (by kernel_rfl) (by kernel_rfl) (by kernel_rfl) ?_
        refine pl_take (.int .i64 (((S / 2 ^ i : Nat) : Int) : Int)) rfl (by kernel_rfl) (by kernel_rfl) (by kernel_rfl) (ex_bin rfl (by kernel_rfl) (by kernel_rfl) (bin_shr (by omega))) ?_
        refine pl_take (.int .i64 ((((S / 2 ^ i) % 2 : Nat) : Int) : Int)) rfl (by kernel_rfl) (by kernel_rfl) (by kernel_rfl) (ex_bin (a := ((S / 2 ^ i : Nat) : Int)) (b := ((2 : Nat) : Int)) rfl (by kernel_rfl) (by kernel_rfl) (bin_rem (by omega))) ?_
        by_cases hc13 : ((((S / 2 ^ i) % 2 : Nat) : Int) : Int) = (1 : Int)
        ·
          refine pl_take (.bool true) rfl (by kernel_rfl) (by kernel_rfl) (by kernel_rfl) (ev_eq (show _ = Result.ok (Next.value (Value.bool (((((S / 2 ^ i) % 2 : Nat) : Int) : Int) == (1 : Int)))) _ from by kernel_rfl) (hc13)) ?_
          refine pl_nil ?_
          refine qw_then ?_
          refine cw_clean [1, 2, 3, 7, 8, 9, 29] (ws' := [(1, .slice (some ⟨sb, so, none⟩) n cl), (2, .int .i64 (((S : Nat) : Int) : Int)), (3, .pointer (some ⟨O1, 0, none⟩)), (7, .int .i64 (((y : Nat) : Int) : Int)), (8, .int .i64 (((Globe.cvRow LA (ss.map fun s => s.1) S y i : Nat) : Int) : Int)), (9, .int .i64 (((i : Nat) : Int) : Int)), (29, .bool true)]) (by kernel_rfl) (fun L => ?_)
          refine cw_t (by kernel_rfl) ?_
          refine cw_plain ?_
          refine pl_take (.int .i64 (((Globe.cvRow LA (ss.map fun s => s.1) S y i : Nat) : Int) : Int)) rfl (by kernel_rfl) (by kernel_rfl) (by kernel_rfl) (by kernel_rfl) ?_
          refine pl_take (.slice (some ⟨sb, so, none⟩) n cl) rfl (by kernel_rfl) (by kernel_rfl) (by kernel_rfl) (by kernel_rfl) ?_
          refine pl_take (.int .i64 (((i : Nat) : Int) : Int)) rfl (by kernel_rfl) (by kernel_rfl) (by kernel_rfl) (by kernel_rfl) ?_
          refine pl_take (.pointer (some ⟨sb, so + i * 2, none⟩)) rfl (by kernel_rfl) (by kernel_rfl) (by kernel_rfl) (ex_index (p := .slice (some ⟨sb, so, none⟩) n cl) (i := .int .i64 ((i : Nat) : Int)) rfl (by kernel_rfl) (by kernel_rfl) (ix26 (k := i) (by omega))) ?_
          refine pl_take (.pointer (some ⟨sb, so + i * 2, none⟩)) rfl (by kernel_rfl) (by kernel_rfl) (by kernel_rfl) (by kernel_rfl) ?_
          refine pl_take (.pointer (some ⟨sb, so + i * 2, none⟩)) rfl (by kernel_rfl) (by kernel_rfl) (by kernel_rfl) (by kernel_rfl) ?_
          refine pl_take (.slice (some ⟨S1, s1, none⟩) 24 e1) rfl (by kernel_rfl) (by kernel_rfl) (by kernel_rfl) (ex_load rfl (by kernel_rfl) (ld23 ((hE.cell d1)))) ?_
          refine pl_take (.int .i64 (((y : Nat) : Int) : Int)) rfl (by kernel_rfl) (by kernel_rfl) (by kernel_rfl) (by kernel_rfl) ?_
          refine pl_take (.pointer (some ⟨S1, s1 + y, none⟩)) rfl (by kernel_rfl) (by kernel_rfl) (by kernel_rfl) (ex_index (p := .slice (some ⟨S1, s1, none⟩) 24 e1) (i := .int .i64 ((y : Nat) : Int)) rfl (by kernel_rfl) (by kernel_rfl) (ix23 (k := y) (by omega))) ?_
          refine pl_take (.int .i64 (((Globe.rowN s.1 y : Nat) : Int) : Int)) rfl (by kernel_rfl) (by kernel_rfl) (by kernel_rfl) (ex_load rfl (by kernel_rfl) (ld3 ((g1.ext hE).cell (y := y) (by omega)))) ?_
          have hb : S.testBit i = true := Globe.bit_of_one (by have := hc13; omega)
          have hcv : Globe.lessN (Globe.cvRow LA (ss.map fun s => s.1) S y i) (Globe.rowN s.1 y) = Globe.cvRow LA (ss.map fun s => s.1) S y (i + 1) := by rw [Globe.cvRow, hb, hsu]; rfl
          refine pl_take (.int .i64 (((Globe.cvRow LA (ss.map fun s => s.1) S y (i + 1) : Nat) : Int) : Int)) rfl (by kernel_rfl) (by kernel_rfl) (by kernel_rfl) (ev_int (show _ = Result.ok (Next.value (Value.int .i64 (bits .andNot .i64 ((Globe.cvRow LA (ss.map fun s => s.1) S y i : Nat) : Int) ((Globe.rowN s.1 y : Nat) : Int)))) _ from by kernel_rfl) (by rw [less_i64 _ _ (by omega) (by omega), hcv])) ?_
          refine pl_take (.int .i64 (((Globe.cvRow LA (ss.map fun s => s.1) S y (i + 1) : Nat) : Int) : Int)) rfl (by kernel_rfl) (by kernel_rfl) (by kernel_rfl) (by kernel_rfl) ?_
          refine pl_nil ?_
          refine qw_block ?_
          refine qw_then ?_
          refine cw_clean [1, 2, 3, 7, 8, 9] (ws' := [(1, .slice (some ⟨sb, so, none⟩) n cl), (2, .int .i64 (((S : Nat) : Int) : Int)), (3, .pointer (some ⟨O1, 0, none⟩)), (7, .int .i64 (((y : Nat) : Int) : Int)), (8, .int .i64 (((Globe.cvRow LA (ss.map fun s => s.1) S y (i + 1) : Nat) : Int) : Int)), (9, .int .i64 (((i : Nat) : Int) : Int))]) (by kernel_rfl) (fun L => ?_)
          refine cw_plain ?_
          refine pl_take (.int .i64 (((i : Nat) : Int) : Int)) rfl (by kernel_rfl) (by kernel_rfl) (by kernel_rfl) (by kernel_rfl) ?_
          refine pl_take (.int .i64 (((i + 1 : Nat) : Int) : Int)) rfl (by kernel_rfl) (by kernel_rfl) (by kernel_rfl) (ev_wrap (by kernel_rfl) (by omega) (by omega)) ?_
          refine pl_take (.int .i64 (((i + 1 : Nat) : Int) : Int)) rfl (by kernel_rfl) (by kernel_rfl) (by kernel_rfl) (by kernel_rfl) ?_
          refine pl_nil ?_
          refine qw_round [1, 2, 3, 7, 8, 9] (ws' := [(1, .slice (some ⟨sb, so, none⟩) n cl), (2, .int .i64 (((S : Nat) : Int) : Int)), (3, .pointer (some ⟨O1, 0, none⟩)), (7, .int .i64 (((y : Nat) : Int) : Int)), (8, .int .i64 (((Globe.cvRow LA (ss.map fun s => s.1) S y (i + 1) : Nat) : Int) : Int)), (9, .int .i64 (((i + 1 : Nat) : Int) : Int))]) (by kernel_rfl) _ ?_ ⟨(i + 1), rfl, rfl, hs10, hE, hX5, by omega⟩
          omega
        ·
          refine pl_take (.bool false) rfl (by kernel_rfl) (by kernel_rfl) (by kernel_rfl) (ev_neq (show _ = Result.ok (Next.value (Value.bool (((((S / 2 ^ i) % 2 : Nat) : Int) : Int) == (1 : Int)))) _ from by kernel_rfl) (hc13)) ?_
          refine pl_nil ?_
          refine qw_then ?_
          refine cw_clean [1, 2, 3, 7, 8, 9, 29] (ws' := [(1, .slice (some ⟨sb, so, none⟩) n cl), (2, .int .i64 (((S : Nat) : Int) : Int)), (3, .pointer (some ⟨O1, 0, none⟩)), (7, .int .i64 (((y : Nat) : Int) : Int)), (8, .int .i64 (((Globe.cvRow LA (ss.map fun s => s.1) S y i : Nat) : Int) : Int)), (9, .int .i64 (((i : Nat) : Int) : Int)), (29, .bool false)]) (by kernel_rfl) (fun L => ?_)
          refine cw_f (by kernel_rfl) ?_
          refine cw_skip ?_
          refine qw_block ?_
          refine qw_then ?_
          refine cw_plain ?_
          refine pl_take (.int .i64 (((i : Nat) : Int) : Int)) rfl (by kernel_rfl) (by kernel_rfl) (by kernel_rfl) (by kernel_rfl) ?_
          refine pl_take (.int .i64 (((i + 1 : Nat) : Int) : Int)) rfl (by kernel_rfl) (by kernel_rfl) (by kernel_rfl) (ev_wrap (by kernel_rfl) (by omega) (by omega)) ?_
          refine pl_take (.int .i64 (((i + 1 : Nat) : Int) : Int)) rfl (by kernel_rfl) (by kernel_rfl) (by kernel_rfl) (by kernel_rfl) ?_
          refine pl_nil ?_
          have hb : S.testBit i = false := by cases hq : S.testBit i; rfl; rw [Globe.bit_one hq] at hc13; exact absurd rfl hc13
          refine qw_round [1, 2, 3, 7, 8, 9] (ws' := [(1, .slice (some ⟨sb, so, none⟩) n cl), (2, .int .i64 (((S : Nat) : Int) : Int)), (3, .pointer (some ⟨O1, 0, none⟩)), (7, .int .i64 (((y : Nat) : Int) : Int)), (8, .int .i64 (((Globe.cvRow LA (ss.map fun s => s.1) S y i : Nat) : Int) : Int)), (9, .int .i64 (((i + 1 : Nat) : Int) : Int))]) (by kernel_rfl) _ ?_ ⟨(i + 1), (by rw [show Globe.cvRow LA (ss.map fun s => s.1) S y (i + 1) = Globe.cvRow LA (ss.map fun s => s.1) S y i by rw [Globe.cvRow, hb]; rfl]), rfl, hs10, hE, hX5, by omega⟩
          omega
      ·
        have hin : i = n := by omega
        refine cw_seq ?_
        refine cw_seq ?_
        refine cw_plain ?_
        refine pl_take (.int .i64 (((i : Nat) : Int) : Int)) rfl (by kernel_rfl) (by kernel_rfl) (by kernel_rfl) (by kernel_rfl) ?_
        refine pl_take (.slice a n cl) rfl (by kernel_rfl) (by kernel_rfl) (by kernel_rfl) (by kernel_rfl) ?_
        refine pl_take (.int .i64 (((n : Nat) : Int) : Int)) rfl (by kernel_rfl) (by kernel_rfl) (by kernel_rfl) (by kernel_rfl) ?_
        refine pl_take (.bool false) rfl (by kernel_rfl) (by kernel_rfl) (by kernel_rfl) (ev_ndec (show _ = Result.ok (Next.value (Value.bool (decide ((((i : Nat) : Int) : Int) < (((n : Nat) : Int) : Int))))) _ from by kernel_rfl) (by omega)) ?_
        refine pl_nil ?_
        refine qw_then ?_
        refine cw_f (by kernel_rfl) ?_
        refine cw_exit ?_
        refine qw_then_exit ?_
        refine qw_then_exit ?_
        refine qw_block_out ?_
        refine qw_then ?_
        refine cw_seq ?_
        refine cw_plain ?_
        refine pl_take (.int .i64 (((Globe.cvRow LA (ss.map fun s => s.1) S y i : Nat) : Int) : Int)) rfl (by kernel_rfl) (by kernel_rfl) (by kernel_rfl) (by kernel_rfl) ?_
        by_cases hc14 : (((Globe.cvRow LA (ss.map fun s => s.1) S y i : Nat) : Int) : Int) = (0 : Int)
        ·
          refine pl_take (.bool false) rfl (by kernel_rfl) (by kernel_rfl) (by kernel_rfl) (ev_nne (show _ = Result.ok (Next.value (Value.bool ((((Globe.cvRow LA (ss.map fun s => s.1) S y i : Nat) : Int) : Int) != (0 : Int)))) _ from by kernel_rfl) (hc14)) ?_
          refine pl_nil ?_
          refine qw_then ?_
          refine cw_f (by kernel_rfl) ?_
          refine cw_skip ?_
          refine qw_block ?_
          refine qw_then ?_
          refine cw_plain ?_
          refine pl_take (.int .i64 (((y : Nat) : Int) : Int)) rfl (by kernel_rfl) (by kernel_rfl) (by kernel_rfl) (by kernel_rfl) ?_
          refine pl_take (.int .i64 (((y + 1 : Nat) : Int) : Int)) rfl (by kernel_rfl) (by kernel_rfl) (by kernel_rfl) (ev_wrap (by kernel_rfl) (by omega) (by omega)) ?_
          refine pl_take (.int .i64 (((y + 1 : Nat) : Int) : Int)) rfl (by kernel_rfl) (by kernel_rfl) (by kernel_rfl) (by kernel_rfl) ?_
          refine pl_nil ?_
          refine qw_round [1, 2, 3, 7] (ws' := [(1, .slice a n cl), (2, .int .i64 (((S : Nat) : Int) : Int)), (3, .pointer (some ⟨O1, 0, none⟩)), (7, .int .i64 (((y + 1 : Nat) : Int) : Int))]) (by kernel_rfl) _ ?_ ⟨(y + 1), rfl, rfl, (Nat.le_trans hs6 hs10), hE, hX5, by omega, (fun j hj => by rcases Nat.lt_or_ge j y with q | q; exact hall j q; rw [show j = y by omega, ← hin]; omega)⟩
          omega
        ·
          refine pl_take (.bool true) rfl (by kernel_rfl) (by kernel_rfl) (by kernel_rfl) (ev_ne (show _ = Result.ok (Next.value (Value.bool ((((Globe.cvRow LA (ss.map fun s => s.1) S y i : Nat) : Int) : Int) != (0 : Int)))) _ from by kernel_rfl) (hc14)) ?_
          refine pl_nil ?_
          refine qw_then ?_
          refine cw_t (by kernel_rfl) ?_
          refine cw_seq ?_
          refine cw_plain ?_
          refine pl_take (.bool false) rfl (by kernel_rfl) (by kernel_rfl) (by kernel_rfl) (by kernel_rfl) ?_
          refine pl_nil ?_
          refine qw_then ?_
          refine cw_ret ?_
          refine qw_block_ret ?_
          refine qw_then_ret ?_
          refine qw_then_ret ?_
          refine qw_block_ret ?_
          refine qw_then_ret ?_
          refine qw_ret [.bool false] rfl ⟨(by kernel_rfl), trivial⟩ ?_
          exact ⟨by rw [Globe.covers_no (y := y) (by omega) (by rw [hin] at hc14; intro e; rw [e] at hc14; exact hc14 rfl)]; rfl, hE⟩
    ·
      refine pl_take (.bool false) rfl (by kernel_rfl) (by kernel_rfl) (by kernel_rfl) (ev_ndec (show _ = Result.ok (Next.value (Value.bool (decide ((((y : Nat) : Int) : Int) < (24 : Int))))) _ from by kernel_rfl) (hc9)) ?_
      refine pl_nil ?_
      refine qw_then ?_
      refine cw_f (by kernel_rfl) ?_
      refine cw_exit ?_
      refine qw_then_exit ?_
      refine qw_then_exit ?_
      refine qw_block_out ?_
      refine qw_then ?_
      refine cw_seq ?_
      refine cw_plain ?_
      refine pl_take (.bool true) rfl (by kernel_rfl) (by kernel_rfl) (by kernel_rfl) (by kernel_rfl) ?_
      refine pl_nil ?_
      refine qw_then ?_
      refine cw_ret ?_
      refine qw_ret [.bool true] rfl ⟨(by kernel_rfl), trivial⟩ ?_
      exact ⟨by rw [Globe.covers_yes (fun j hj => hall j (by omega))]; rfl, hE⟩
  ·
    refine cw_seq ?_
    refine cw_seq ?_
    refine cw_plain ?_
    refine pl_take (.int .i64 (((y : Nat) : Int) : Int)) rfl (by kernel_rfl) (by kernel_rfl) (by kernel_rfl) (by kernel_rfl) ?_
    by_cases hc15 : (((y : Nat) : Int) : Int) < (24 : Int)
    ·
      refine pl_take (.bool true) rfl (by kernel_rfl) (by kernel_rfl) (by kernel_rfl) (ev_dec (show _ = Result.ok (Next.value (Value.bool (decide ((((y : Nat) : Int) : Int) < (24 : Int))))) _ from by kernel_rfl) (hc15)) ?_
      refine pl_nil ?_
      refine qw_then ?_
      refine cw_t (by kernel_rfl) ?_
      refine cw_skip ?_
      refine qw_then ?_
      refine cw_seq ?_
      refine cw_block ?_
      refine cw_seq ?_
      refine cw_plain ?_
      refine pl_take (.pointer (some ⟨O1, 0, none⟩)) rfl (by kernel_rfl) (by kernel_rfl) (by kernel_rfl) (by kernel_rfl) ?_
      refine pl_take (.slice (some ⟨b, o, none⟩) 24 c) rfl (by kernel_rfl) (by kernel_rfl) (by kernel_rfl) (ex_load rfl (by kernel_rfl) (ld23 ((BoxAt.ext hX5 bO1_0).1))) ?_
      refine pl_take (.int .i64 (((y : Nat) : Int) : Int)) rfl (by kernel_rfl) (by kernel_rfl) (by kernel_rfl) (by kernel_rfl) ?_
      refine pl_take (.pointer (some ⟨b, o + y, none⟩)) rfl (by kernel_rfl) (by kernel_rfl) (by kernel_rfl) (ex_index (p := .slice (some ⟨b, o, none⟩) 24 c) (i := .int .i64 ((y : Nat) : Int)) rfl (by kernel_rfl) (by kernel_rfl) (ix23 (k := y) (by omega))) ?_
      refine pl_take (.int .i64 (((Globe.rowN LA y : Nat) : Int) : Int)) rfl (by kernel_rfl) (by kernel_rfl) (by kernel_rfl) (ex_load rfl (by kernel_rfl) (ld3 ((hA.ext hE).cell (y := y) (by omega)))) ?_
      refine pl_take (.int .i64 (((Globe.rowN LA y : Nat) : Int) : Int)) rfl (by kernel_rfl) (by kernel_rfl) (by kernel_rfl) (by kernel_rfl) ?_
      refine pl_nil ?_
      refine qw_then ?_
      refine cw_seq ?_
      refine cw_seq ?_
      refine cw_plain ?_
      refine pl_take (.int .i64 0) rfl (by kernel_rfl) (by kernel_rfl) (by kernel_rfl) (by kernel_rfl) ?_
      refine pl_nil ?_
      refine qw_then ?_
      refine cw_block ?_
      refine cw_loop [1, 2, 3, 7, 8, 9] (fun ws' wr m => ∃ i : Nat, ws' = [(1, .slice a n cl), (2, .int .i64 (((S : Nat) : Int) : Int)), (3, .pointer (some ⟨O1, 0, none⟩)), (7, .int .i64 (((y : Nat) : Int) : Int)), (8, .int .i64 (((Globe.cvRow LA (ss.map fun s => s.1) S y i : Nat) : Int) : Int)), (9, .int .i64 (((i : Nat) : Int) : Int))] ∧ m = n - i ∧ w7.heap.size ≤ wr.heap.size ∧ Ext w wr ∧ Ext X2 wr ∧ i ≤ n) (ws0 := [(1, .slice a n cl), (2, .int .i64 (((S : Nat) : Int) : Int)), (3, .pointer (some ⟨O1, 0, none⟩)), (7, .int .i64 (((y : Nat) : Int) : Int)), (8, .int .i64 (((Globe.rowN LA y : Nat) : Int) : Int)), (9, .int .i64 0)]) (by kernel_rfl) _ ⟨0, rfl, rfl, Nat.le_refl _, hE, hX5, by omega⟩ ?_
      clear hE hX5
      rintro m18 L ws w17 ⟨i, rfl, rfl, hs16, hE, hX5, hi⟩
      by_cases hlt : i < n
      ·
        obtain ⟨sb, so, s, rfl, hs, hst⟩ := hS.at hlt
        obtain ⟨q1', q2', q3'⟩ := okS_at hok hs
        obtain ⟨S1, s1, e1, S2, s2, e2, d1, d2, g1, g2⟩ := hst.v q1' q2'
        have hsu : Globe.sureAt (ss.map fun s => s.1) i = s.1 := by unfold Globe.sureAt; rw [List.getElem?_map, hs]; rfl
        have hr1 := Globe.rowN_lt q1' y; have hr2 := Globe.cvRow_lt hA.2 (Ss := ss.map fun s => s.1) S y i
        refine cw_seq ?_
        refine cw_seq ?_
        refine cw_plain ?_
        refine pl_take (.int .i64 (((i : Nat) : Int) : Int)) rfl (by kernel_rfl) (by kernel_rfl) (by kernel_rfl) (by kernel_rfl) ?_
        refine pl_take (.slice (some ⟨sb, so, none⟩) n cl) rfl (by kernel_rfl) (by kernel_rfl) (by kernel_rfl) (by kernel_rfl) ?_
        refine pl_take (.int .i64 (((n : Nat) : Int) : Int)) rfl (by kernel_rfl) (by kernel_rfl) (by kernel_rfl) (by kernel_rfl) ?_
        refine pl_take (.bool true) rfl (by kernel_rfl) (by kernel_rfl) (by kernel_rfl) (ev_dec (show _ = Result.ok (Next.value (Value.bool (decide ((((i : Nat) : Int) : Int) < (((n : Nat) : Int) : Int))))) _ from by kernel_rfl) (by omega)) ?_
        refine pl_nil ?_
        refine qw_then ?_
        refine cw_t (by kernel_rfl) ?_
        refine cw_skip ?_
        refine qw_then ?_
        refine cw_seq ?_
        refine cw_block ?_
        refine cw_seq ?_
        refine cw_plain ?_
        refine pl_take (.int .i64 (((S : Nat) : Int) : Int)) rfl (by kernel_rfl) (by kernel_rfl) (by kernel_rfl) (by kernel_rfl) ?_
        refine pl_take (.int .i64 (((i : Nat) : Int) : Int)) rfl (by kernel_rfl) (by kernel_rfl) (by kernel_rfl) (by kernel_rfl) ?_
        refine pl_take (.int .i64 (((S / 2 ^ i : Nat) : Int) : Int)) rfl (by kernel_rfl) (by kernel_rfl) (by kernel_rfl) (ex_bin rfl (by kernel_rfl) (by kernel_rfl) (bin_shr (by omega))) ?_
        refine pl_take (.int .i64 ((((S / 2 ^ i) % 2 : Nat) : Int) : Int)) rfl (by kernel_rfl) (by kernel_rfl) (by kernel_rfl) (ex_bin (a := ((S / 2 ^ i : Nat) : Int)) (b := ((2 : Nat) : Int)) rfl (by kernel_rfl) (by kernel_rfl) (bin_rem (by omega))) ?_
        by_cases hc19 : ((((S / 2 ^ i) % 2 : Nat) : Int) : Int) = (1 : Int)
        ·
          refine pl_take (.bool true) rfl (by kernel_rfl) (by kernel_rfl) (by kernel_rfl) (ev_eq (show _ = Result.ok (Next.value (Value.bool (((((S / 2 ^ i) % 2 : Nat) : Int) : Int) == (1 : Int)))) _ from by kernel_rfl) (hc19)) ?_
          refine pl_nil ?_
          refine qw_then ?_
          refine cw_clean [1, 2, 3, 7, 8, 9, 29] (ws' := [(1, .slice (some ⟨sb, so, none⟩) n cl), (2, .int .i64 (((S : Nat) : Int) : Int)), (3, .pointer (some ⟨O1, 0, none⟩)), (7, .int .i64 (((y : Nat) : Int) : Int)), (8, .int .i64 (((Globe.cvRow LA (ss.map fun s => s.1) S y i : Nat) : Int) : Int)), (9, .int .i64 (((i : Nat) : Int) : Int)), (29, .bool true)]) (by kernel_rfl) (fun L => ?_)
          refine cw_t (by kernel_rfl) ?_
          refine cw_plain ?_
          refine pl_take (.int .i64 (((Globe.cvRow LA (ss.map fun s => s.1) S y i : Nat) : Int) : Int)) rfl (by kernel_rfl) (by kernel_rfl) (by kernel_rfl) (by kernel_rfl) ?_
          refine pl_take (.slice (some ⟨sb, so, none⟩) n cl) rfl (by kernel_rfl) (by kernel_rfl) (by kernel_rfl) (by kernel_rfl) ?_
          refine pl_take (.int .i64 (((i : Nat) : Int) : Int)) rfl (by kernel_rfl) (by kernel_rfl) (by kernel_rfl) (by kernel_rfl) ?_
          refine pl_take (.pointer (some ⟨sb, so + i * 2, none⟩)) rfl (by kernel_rfl) (by kernel_rfl) (by kernel_rfl) (ex_index (p := .slice (some ⟨sb, so, none⟩) n cl) (i := .int .i64 ((i : Nat) : Int)) rfl (by kernel_rfl) (by kernel_rfl) (ix26 (k := i) (by omega))) ?_
          refine pl_take (.pointer (some ⟨sb, so + i * 2, none⟩)) rfl (by kernel_rfl) (by kernel_rfl) (by kernel_rfl) (by kernel_rfl) ?_
          refine pl_take (.pointer (some ⟨sb, so + i * 2, none⟩)) rfl (by kernel_rfl) (by kernel_rfl) (by kernel_rfl) (by kernel_rfl) ?_
          refine pl_take (.slice (some ⟨S1, s1, none⟩) 24 e1) rfl (by kernel_rfl) (by kernel_rfl) (by kernel_rfl) (ex_load rfl (by kernel_rfl) (ld23 ((hE.cell d1)))) ?_
          refine pl_take (.int .i64 (((y : Nat) : Int) : Int)) rfl (by kernel_rfl) (by kernel_rfl) (by kernel_rfl) (by kernel_rfl) ?_
          refine pl_take (.pointer (some ⟨S1, s1 + y, none⟩)) rfl (by kernel_rfl) (by kernel_rfl) (by kernel_rfl) (ex_index (p := .slice (some ⟨S1, s1, none⟩) 24 e1) (i := .int .i64 ((y : Nat) : Int)) rfl (by kernel_rfl) (by kernel_rfl) (ix23 (k := y) (by omega))) ?_
          refine pl_take (.int .i64 (((Globe.rowN s.1 y : Nat) : Int) : Int)) rfl (by kernel_rfl) (by kernel_rfl) (by kernel_rfl) (ex_load rfl (by kernel_rfl) (ld3 ((g1.ext hE).cell (y := y) (by omega)))) ?_
          have hb : S.testBit i = true := Globe.bit_of_one (by have := hc19; omega)
          have hcv : Globe.lessN (Globe.cvRow LA (ss.map fun s => s.1) S y i) (Globe.rowN s.1 y) = Globe.cvRow LA (ss.map fun s => s.1) S y (i + 1) := by rw [Globe.cvRow, hb, hsu]; rfl
          refine pl_take (.int .i64 (((Globe.cvRow LA (ss.map fun s => s.1) S y (i + 1) : Nat) : Int) : Int)) rfl (by kernel_rfl) (by kernel_rfl) (by kernel_rfl) (ev_int (show _ = Result.ok (Next.value (Value.int .i64 (bits .andNot .i64 ((Globe.cvRow LA (ss.map fun s => s.1) S y i : Nat) : Int) ((Globe.rowN s.1 y : Nat) : Int)))) _ from by kernel_rfl) (by rw [less_i64 _ _ (by omega) (by omega), hcv])) ?_
          refine pl_take (.int .i64 (((Globe.cvRow LA (ss.map fun s => s.1) S y (i + 1) : Nat) : Int) : Int)) rfl (by kernel_rfl) (by kernel_rfl) (by kernel_rfl) (by kernel_rfl) ?_
          refine pl_nil ?_
          refine qw_block ?_
          refine qw_then ?_
          refine cw_clean [1, 2, 3, 7, 8, 9] (ws' := [(1, .slice (some ⟨sb, so, none⟩) n cl), (2, .int .i64 (((S : Nat) : Int) : Int)), (3, .pointer (some ⟨O1, 0, none⟩)), (7, .int .i64 (((y : Nat) : Int) : Int)), (8, .int .i64 (((Globe.cvRow LA (ss.map fun s => s.1) S y (i + 1) : Nat) : Int) : Int)), (9, .int .i64 (((i : Nat) : Int) : Int))]) (by kernel_rfl) (fun L => ?_)
          refine cw_plain ?_
          refine pl_take (.int .i64 (((i : Nat) : Int) : Int)) rfl (by kernel_rfl) (by kernel_rfl) (by kernel_rfl) (by kernel_rfl) ?_
          refine pl_take (.int .i64 (((i + 1 : Nat) : Int) : Int)) rfl (by kernel_rfl) (by kernel_rfl) (by kernel_rfl) (ev_wrap (by kernel_rfl) (by omega) (by omega)) ?_
          refine pl_take (.int .i64 (((i + 1 : Nat) : Int) : Int)) rfl (by kernel_rfl) (by kernel_rfl) (by kernel_rfl) (by kernel_rfl) ?_
          refine pl_nil ?_
          refine qw_round [1, 2, 3, 7, 8, 9] (ws' := [(1, .slice (some ⟨sb, so, none⟩) n cl), (2, .int .i64 (((S : Nat) : Int) : Int)), (3, .pointer (some ⟨O1, 0, none⟩)), (7, .int .i64 (((y : Nat) : Int) : Int)), (8, .int .i64 (((Globe.cvRow LA (ss.map fun s => s.1) S y (i + 1) : Nat) : Int) : Int)), (9, .int .i64 (((i + 1 : Nat) : Int) : Int))]) (by kernel_rfl) _ ?_ ⟨(i + 1), rfl, rfl, hs16, hE, hX5, by omega⟩
          omega
        ·
          refine pl_take (.bool false) rfl (by kernel_rfl) (by kernel_rfl) (by kernel_rfl) (ev_neq (show _ = Result.ok (Next.value (Value.bool (((((S / 2 ^ i) % 2 : Nat) : Int) : Int) == (1 : Int)))) _ from by kernel_rfl) (hc19)) ?_
          refine pl_nil ?_
          refine qw_then ?_
          refine cw_clean [1, 2, 3, 7, 8, 9, 29] (ws' := [(1, .slice (some ⟨sb, so, none⟩) n cl), (2, .int .i64 (((S : Nat) : Int) : Int)), (3, .pointer (some ⟨O1, 0, none⟩)), (7, .int .i64 (((y : Nat) : Int) : Int)), (8, .int .i64 (((Globe.cvRow LA (ss.map fun s => s.1) S y i : Nat) : Int) : Int)), (9, .int .i64 (((i : Nat) : Int) : Int)), (29, .bool false)]) (by kernel_rfl) (fun L => ?_)
          refine cw_f (by kernel_rfl) ?_
          refine cw_skip ?_
          refine qw_block ?_
          refine qw_then ?_
          refine cw_plain ?_
          refine pl_take (.int .i64 (((i : Nat) : Int) : Int)) rfl (by kernel_rfl) (by kernel_rfl) (by kernel_rfl) (by kernel_rfl) ?_
          refine pl_take (.int .i64 (((i + 1 : Nat) : Int) : Int)) rfl (by kernel_rfl) (by kernel_rfl) (by kernel_rfl) (ev_wrap (by kernel_rfl) (by omega) (by omega)) ?_
          refine pl_take (.int .i64 (((i + 1 : Nat) : Int) : Int)) rfl (by kernel_rfl) (by kernel_rfl) (by kernel_rfl) (by kernel_rfl) ?_
          refine pl_nil ?_
          have hb : S.testBit i = false := by cases hq : S.testBit i; rfl; rw [Globe.bit_one hq] at hc19; exact absurd rfl hc19
          refine qw_round [1, 2, 3, 7, 8, 9] (ws' := [(1, .slice (some ⟨sb, so, none⟩) n cl), (2, .int .i64 (((S : Nat) : Int) : Int)), (3, .pointer (some ⟨O1, 0, none⟩)), (7, .int .i64 (((y : Nat) : Int) : Int)), (8, .int .i64 (((Globe.cvRow LA (ss.map fun s => s.1) S y i : Nat) : Int) : Int)), (9, .int .i64 (((i + 1 : Nat) : Int) : Int))]) (by kernel_rfl) _ ?_ ⟨(i + 1), (by rw [show Globe.cvRow LA (ss.map fun s => s.1) S y (i + 1) = Globe.cvRow LA (ss.map fun s => s.1) S y i by rw [Globe.cvRow, hb]; rfl]), rfl, hs16, hE, hX5, by omega⟩
          omega
      ·
        have hin : i = n := by omega
        refine cw_seq ?_
        refine cw_seq ?_
        refine cw_plain ?_
        refine pl_take (.int .i64 (((i : Nat) : Int) : Int)) rfl (by kernel_rfl) (by kernel_rfl) (by kernel_rfl) (by kernel_rfl) ?_
        refine pl_take (.slice a n cl) rfl (by kernel_rfl) (by kernel_rfl) (by kernel_rfl) (by kernel_rfl) ?_
        refine pl_take (.int .i64 (((n : Nat) : Int) : Int)) rfl (by kernel_rfl) (by kernel_rfl) (by kernel_rfl) (by kernel_rfl) ?_
        refine pl_take (.bool false) rfl (by kernel_rfl) (by kernel_rfl) (by kernel_rfl) (ev_ndec (show _ = Result.ok (Next.value (Value.bool (decide ((((i : Nat) : Int) : Int) < (((n : Nat) : Int) : Int))))) _ from by kernel_rfl) (by omega)) ?_
        refine pl_nil ?_
        refine qw_then ?_
        refine cw_f (by kernel_rfl) ?_
        refine cw_exit ?_
        refine qw_then_exit ?_
        refine qw_then_exit ?_
        refine qw_block_out ?_
        refine qw_then ?_
        refine cw_seq ?_
        refine cw_plain ?_
        refine pl_take (.int .i64 (((Globe.cvRow LA (ss.map fun s => s.1) S y i : Nat) : Int) : Int)) rfl (by kernel_rfl) (by kernel_rfl) (by kernel_rfl) (by kernel_rfl) ?_
        by_cases hc20 : (((Globe.cvRow LA (ss.map fun s => s.1) S y i : Nat) : Int) : Int) = (0 : Int)
        ·
          refine pl_take (.bool false) rfl (by kernel_rfl) (by kernel_rfl) (by kernel_rfl) (ev_nne (show _ = Result.ok (Next.value (Value.bool ((((Globe.cvRow LA (ss.map fun s => s.1) S y i : Nat) : Int) : Int) != (0 : Int)))) _ from by kernel_rfl) (hc20)) ?_
          refine pl_nil ?_
          refine qw_then ?_
          refine cw_f (by kernel_rfl) ?_
          refine cw_skip ?_
          refine qw_block ?_
          refine qw_then ?_
          refine cw_plain ?_
          refine pl_take (.int .i64 (((y : Nat) : Int) : Int)) rfl (by kernel_rfl) (by kernel_rfl) (by kernel_rfl) (by kernel_rfl) ?_
          refine pl_take (.int .i64 (((y + 1 : Nat) : Int) : Int)) rfl (by kernel_rfl) (by kernel_rfl) (by kernel_rfl) (ev_wrap (by kernel_rfl) (by omega) (by omega)) ?_
          refine pl_take (.int .i64 (((y + 1 : Nat) : Int) : Int)) rfl (by kernel_rfl) (by kernel_rfl) (by kernel_rfl) (by kernel_rfl) ?_
          refine pl_nil ?_
          refine qw_round [1, 2, 3, 7] (ws' := [(1, .slice a n cl), (2, .int .i64 (((S : Nat) : Int) : Int)), (3, .pointer (some ⟨O1, 0, none⟩)), (7, .int .i64 (((y + 1 : Nat) : Int) : Int))]) (by kernel_rfl) _ ?_ ⟨(y + 1), rfl, rfl, (Nat.le_trans hs6 hs16), hE, hX5, by omega, (fun j hj => by rcases Nat.lt_or_ge j y with q | q; exact hall j q; rw [show j = y by omega, ← hin]; omega)⟩
          omega
        ·
          refine pl_take (.bool true) rfl (by kernel_rfl) (by kernel_rfl) (by kernel_rfl) (ev_ne (show _ = Result.ok (Next.value (Value.bool ((((Globe.cvRow LA (ss.map fun s => s.1) S y i : Nat) : Int) : Int) != (0 : Int)))) _ from by kernel_rfl) (hc20)) ?_
          refine pl_nil ?_
          refine qw_then ?_
          refine cw_t (by kernel_rfl) ?_
          refine cw_seq ?_
          refine cw_plain ?_
          refine pl_take (.bool false) rfl (by kernel_rfl) (by kernel_rfl) (by kernel_rfl) (by kernel_rfl) ?_
          refine pl_nil ?_
          refine qw_then ?_
          refine cw_ret ?_
          refine qw_block_ret ?_
          refine qw_then_ret ?_
          refine qw_then_ret ?_
          refine qw_block_ret ?_
          refine qw_then_ret ?_
          refine qw_ret [.bool false] rfl ⟨(by kernel_rfl), trivial⟩ ?_
          exact ⟨by rw [Globe.covers_no (y := y) (by omega) (by rw [hin] at hc20; intro e; rw [e] at hc20; exact hc20 rfl)]; rfl, hE⟩
    ·
      refine pl_take (.bool false) rfl (by kernel_rfl) (by kernel_rfl) (by kernel_rfl) (ev_ndec (show _ = Result.ok (Next.value (Value.bool (decide ((((y : Nat) : Int) : Int) < (24 : Int))))) _ from by kernel_rfl) (hc15)) ?_
      refine pl_nil ?_
      refine qw_then ?_
      refine cw_f (by kernel_rfl) ?_
      refine cw_exit ?_
      refine qw_then_exit ?_
      refine qw_then_exit ?_
      refine qw_block_out ?_
      refine qw_then ?_
      refine cw_seq ?_
      refine cw_plain ?_
      refine pl_take (.bool true) rfl (by kernel_rfl) (by kernel_rfl) (by kernel_rfl) (by kernel_rfl) ?_
      refine pl_nil ?_
      refine qw_then ?_
      refine cw_ret ?_
      refine qw_ret [.bool true] rfl ⟨(by kernel_rfl), trivial⟩ ?_
      exact ⟨by rw [Globe.covers_yes (fun j hj => hall j (by omega))]; rfl, hE⟩
theorem Covers_r {w1 w2 : World} {b o : Nat} (c cl : Nat) {LA : List Int} {a : Option Addr} {n : Nat} {ss : List (List Int × List Int)} {S : Nat} {r : Bool} (w : World) (hl : VA w1 b o LA) (e1 : Ext w1 w) (h : StripsAt w2 a n ss) (e2 : Ext w2 w) (hok : Globe.stripsOk ss = true) (hn : n ≤ 12) (hr : Globe.coversB LA (ss.map fun s => s.1) S n = r) :
    Calls Tryd.prog 30 #[.agg #[.slice (some ⟨b, o, none⟩) 24 c], .slice a n cl, .int .i64 (S : Int)] w fun e w' => e = .returned (.bool r) ∧ Ext w w' := hr ▸ Covers_c c cl w hl e1 h e2 hok hn

end Go.Proofs.YtglfoglkdbbmmaaDoor

/- The least of all sets of indices: what a search by masks finds is what the search by lists does. Plain mathematics. -/
namespace Go.Proofs.YtglfoglkdbbmmaaDoor
namespace Globe

def ltB : List Nat → List Nat → Bool
  | a :: r, b :: q => if a = b then ltB r q else decide (a < b)
  | _, _ => false
theorem ltB_total : ∀ x y : List Nat, x.length = y.length → ltB x y = false → x = y ∨ ltB y x = true
  | [], [], _, _ => .inl rfl
  | [], _ :: _, h, _ => by simp at h
  | _ :: _, [], h, _ => by simp at h
  | a :: r, b :: q, h, hl => by
    by_cases e : a = b
    · subst e
      simp only [ltB, if_true] at hl ⊢
      rcases ltB_total r q (by simpa using h) hl with rfl | k
      · exact .inl rfl
      · exact .inr k
    · simp only [ltB, if_neg e, decide_eq_false_iff_not] at hl
      refine .inr ?_
      simp only [ltB, if_neg (Ne.symm e), decide_eq_true_eq]; omega
theorem ltB_trans : ∀ x y z : List Nat, ltB x y = true → ltB y z = true → ltB x z = true
  | [], _, _, h, _ => by simp [ltB] at h
  | _ :: _, [], _, h, _ => by simp [ltB] at h
  | _ :: _, _ :: _, [], _, h => by simp [ltB] at h
  | a :: r, b :: q, c :: s, h1, h2 => by
    simp only [ltB] at h1 h2 ⊢
    by_cases e1 : a = b
    · subst e1
      by_cases e2 : a = c
      · subst e2
        simp only [if_true] at h1 h2 ⊢
        exact ltB_trans r q s h1 h2
      · simp only [if_neg e2] at h2 ⊢; exact h2
    · simp only [if_neg e1, decide_eq_true_eq] at h1
      by_cases e2 : b = c
      · subst e2; simp only [if_neg e1, decide_eq_true_eq]; exact h1
      · simp only [if_neg e2, decide_eq_true_eq] at h2
        have : a ≠ c := by omega
        simp only [if_neg this, decide_eq_true_eq]; omega
theorem ltB_asymm : ∀ x y : List Nat, ltB x y = true → ltB y x = false
  | [], _, h => by simp [ltB] at h
  | _ :: _, [], h => by simp [ltB] at h
  | a :: r, b :: q, h => by
    simp only [ltB] at h ⊢
    by_cases e : a = b
    · subst e; simp only [if_true] at h ⊢; exact ltB_asymm r q h
    · simp only [if_neg e, decide_eq_true_eq] at h
      simp only [if_neg (Ne.symm e), decide_eq_false_iff_not]; omega
/-- Before: shorter, or as long and with smaller indices. -/
def less2 (x y : List Nat) : Prop := x.length < y.length ∨ (x.length = y.length ∧ ltB x y = true)
theorem less2_trans {x y z : List Nat} (h : less2 x y) (k : less2 y z) : less2 x z := by
  rcases h with h | ⟨h, h'⟩ <;> rcases k with k | ⟨k, k'⟩
  · exact .inl (by omega)
  · exact .inl (by omega)
  · exact .inl (by omega)
  · exact .inr ⟨by omega, ltB_trans x y z h' k'⟩
theorem less2_total {x y : List Nat} (h : ¬ less2 x y) : x = y ∨ less2 y x := by
  unfold less2 at h ⊢
  rcases Nat.lt_trichotomy x.length y.length with q | q | q
  · exact absurd (.inl q) h
  · rcases ltB_total x y q (by cases hq : ltB x y; rfl; exact absurd (.inr ⟨q, hq⟩) h) with e | e
    · exact .inl e
    · exact .inr (.inr ⟨q.symm, e⟩)
  · exact .inr (.inl q)
theorem less2_asymm {x y : List Nat} (h : less2 x y) (k : less2 y x) : False := by
  rcases h with h | ⟨h, h'⟩ <;> rcases k with k | ⟨k, k'⟩
  · omega
  · omega
  · omega
  · rw [ltB_asymm x y h'] at k'; cases k'
theorem combs_lex {n : Nat} {p : List Nat → Bool} : ∀ {m : Nat} {pre : List Nat} {next : Nat} {l : List Nat}, (combs n m pre next).find? p = some l → ∃ r, l = pre ++ r ∧ ∀ q, q.length = m → asc n next q → p (pre ++ q) = true → q = r ∨ ltB r q = true
  | 0, pre, next, l, h => by
    have hm := List.mem_of_find?_eq_some h
    simp only [combs, List.mem_singleton] at hm
    exact ⟨[], by rw [hm, List.append_nil], fun q hq _ _ => .inl (List.length_eq_zero_iff.1 hq)⟩
  | m + 1, pre, next, l, h => by
    rw [combs, List.find?_flatMap] at h
    obtain ⟨l1, a, l2, hx, ha, hn⟩ := List.findSome?_eq_some_iff.1 h
    obtain ⟨r, rfl, hr⟩ := combs_lex ha
    refine ⟨a :: r, by simp, fun q hq hasc hp => ?_⟩
    match q, hq, hasc with
    | j :: q', hq, ⟨h1, h2, h3⟩ =>
      simp at hq
      have hjm : j < n - m := by
        cases q' with
        | nil => simp at hq; subst hq; omega
        | cons i r' => have := asc_bound h3 (by simp); simp at hq this; omega
      have hj : j ∈ (List.range (n - m)).drop next := mem_range_drop.2 ⟨h1, hjm⟩
      have hsort : ((List.range (n - m)).drop next).Pairwise (· < ·) := List.Pairwise.sublist (List.drop_sublist _ _) List.pairwise_lt_range
      rw [hx] at hj hsort
      rcases List.mem_append.1 hj with hj | hj
      · have := List.find?_eq_none.1 (hn j hj) (pre ++ [j] ++ q') (mem_combs.2 ⟨q', rfl, hq, h3⟩)
        rw [List.append_assoc] at this
        exact absurd hp this
      · rcases List.mem_cons.1 hj with rfl | hj
        · rcases hr q' hq h3 (by rw [List.append_assoc]; exact hp) with rfl | k
          · exact .inl rfl
          · exact .inr (by simp only [ltB, if_true]; exact k)
        · have hlt : a < j := (List.pairwise_cons.1 (List.pairwise_append.1 hsort).2.1).1 j hj
          exact .inr (by simp only [ltB, if_neg (Nat.ne_of_lt hlt), decide_eq_true_eq]; exact hlt)
theorem fewest_lex {p : List Nat → Bool} {n : Nat} {l : List Nat} (h : fewestL p n = some l) {x : List Nat} (hx : asc n 0 x) (hp : p x = true) : x = l ∨ less2 l x := by
  obtain ⟨_, _, _, f4⟩ := fewest_some h
  have hle := f4 x hx hp
  rcases Nat.lt_or_ge l.length x.length with q | q
  · exact .inr (.inl q)
  · obtain ⟨l1, k, l2, hr, hk, hn⟩ := List.findSome?_eq_some_iff.1 h
    obtain ⟨r, e, hlex⟩ := combs_lex hk
    have hlk : l.length = k := by
      obtain ⟨r', e', hl', _⟩ := mem_combs.1 (List.mem_of_find?_eq_some hk)
      rw [e']; simpa using hl'
    rw [List.nil_append] at e
    subst e
    rcases hlex x (by omega) hx (by simpa using hp) with e | e
    · exact .inl e
    · exact .inr (.inr ⟨by omega, e⟩)
theorem asc_ge {n : Nat} : ∀ {l : List Nat} {s : Nat}, asc n s l → ∀ i ∈ l, s ≤ i
  | _ :: _, _, ⟨h1, _, h3⟩, i, hi => by
    rcases List.mem_cons.1 hi with rfl | hi
    · exact h1
    · have := asc_ge h3 i hi; omega
theorem filter_mem (n : Nat) : ∀ (k s : Nat) (x : List Nat), s + k = n → asc n s x → ((List.range n).drop s).filter (fun i => decide (i ∈ x)) = x
  | 0, s, x, h, hx => by
    rw [range_drop_ge (by omega)]
    cases x with
    | nil => rfl
    | cons i r => have := hx.1; have := hx.2.1; omega
  | k + 1, s, x, h, hx => by
    rw [range_drop (by omega), List.filter_cons]
    cases x with
    | nil => simp
    | cons i r =>
      obtain ⟨h1, h2, h3⟩ := hx
      by_cases e : i = s
      · subst e
        rw [if_pos (by simp)]
        have : ((List.range n).drop (i + 1)).filter (fun j => decide (j ∈ i :: r)) = ((List.range n).drop (i + 1)).filter (fun j => decide (j ∈ r)) := List.filter_congr fun j hj => by
          have := (mem_range_drop.1 hj).1
          have : j ≠ i := by omega
          simp [this]
        rw [this, filter_mem n k (i + 1) r (by omega) h3]
      · have hs : s ∉ i :: r := fun hm => by
          rcases List.mem_cons.1 hm with q | q
          · exact e q.symm
          · have := asc_ge h3 s q; omega
        rw [if_neg (by simpa using hs)]
        exact filter_mem n k (s + 1) (i :: r) (by omega) ⟨by omega, h2, h3⟩
theorem mask_of (f : Nat → Bool) : ∀ n, ∃ S, S < 2 ^ n ∧ ∀ i, i < n → S.testBit i = f i
  | 0 => ⟨0, by simp, fun i hi => absurd hi (Nat.not_lt_zero i)⟩
  | n + 1 => by
    obtain ⟨S, hS, hb⟩ := mask_of f n
    cases hf : f n
    · refine ⟨S, Nat.lt_of_lt_of_le hS (Nat.pow_le_pow_right (by decide) (by omega)), fun i hi => ?_⟩
      by_cases e : i = n
      · subst e; rw [hf]; exact Nat.testBit_lt_two_pow hS
      · exact hb i (by omega)
    · refine ⟨2 ^ n + S, by rw [Nat.pow_succ]; omega, fun i hi => ?_⟩
      by_cases e : i = n
      · subst e; rw [hf, Nat.testBit_two_pow_add_eq, Nat.testBit_lt_two_pow hS]; rfl
      · rw [Nat.testBit_two_pow_add_gt (by omega)]; exact hb i (by omega)
theorem bits_onto {n : Nat} {x : List Nat} (hx : asc n 0 x) : ∃ S, S < 2 ^ n ∧ bitsL S n = x := by
  obtain ⟨S, hS, hb⟩ := mask_of (fun i => decide (i ∈ x)) n
  refine ⟨S, hS, ?_⟩
  have := filter_mem n n 0 x (by omega) hx
  rw [List.drop_zero] at this
  rw [← this]
  unfold bitsL
  refine List.filter_congr fun i hi => ?_
  rw [hb i (List.mem_range.1 hi)]
/-- The best of the first masks. -/
def BestP (p : List Nat → Bool) (n k : Nat) (r : Option (List Nat)) : Prop :=
  (r = none → ∀ S, S < k → p (bitsL S n) = false) ∧ ∀ b, r = some b → p b = true ∧ asc n 0 b ∧ ∀ S, S < k → p (bitsL S n) = true → bitsL S n = b ∨ less2 b (bitsL S n)
theorem best_0 (p : List Nat → Bool) (n : Nat) : BestP p n 0 none := ⟨fun _ S hS => absurd hS (Nat.not_lt_zero S), fun b hb => by cases hb⟩
theorem best_skip {p : List Nat → Bool} {n k : Nat} {b : List Nat} (h : BestP p n k (some b)) (hk : ¬ less2 (bitsL k n) b) : BestP p n (k + 1) (some b) :=
  ⟨fun e => (by cases e), fun c hc => by
    obtain ⟨h1, h2, h3⟩ := h.2 c hc
    cases hc
    refine ⟨h1, h2, fun S hS hp => ?_⟩
    rcases Nat.lt_or_ge S k with q | q
    · exact h3 S q hp
    · obtain rfl : S = k := by omega
      exact less2_total hk⟩
theorem best_no {p : List Nat → Bool} {n k : Nat} {r : Option (List Nat)} (h : BestP p n k r) (hk : p (bitsL k n) = false) : BestP p n (k + 1) r :=
  ⟨fun e S hS => by
    rcases Nat.lt_or_ge S k with q | q
    · exact h.1 e S q
    · obtain rfl : S = k := by omega
      exact hk, fun c hc => by
    obtain ⟨h1, h2, h3⟩ := h.2 c hc
    refine ⟨h1, h2, fun S hS hp => ?_⟩
    rcases Nat.lt_or_ge S k with q | q
    · exact h3 S q hp
    · obtain rfl : S = k := by omega
      rw [hk] at hp; cases hp⟩
theorem best_yes {p : List Nat → Bool} {n k : Nat} {r : Option (List Nat)} (h : BestP p n k r) (hk : p (bitsL k n) = true) (hl : ∀ b, r = some b → less2 (bitsL k n) b) : BestP p n (k + 1) (some (bitsL k n)) :=
  ⟨fun e => (by cases e), fun c hc => by
    cases hc
    refine ⟨hk, bits_asc _ _, fun S hS hp => ?_⟩
    rcases Nat.lt_or_ge S k with q | q
    · cases hr : r with
      | none => rw [h.1 hr S q] at hp; cases hp
      | some b =>
        rcases (h.2 b hr).2.2 S q hp with e | e
        · exact .inr (by rw [e]; exact hl b hr)
        · exact .inr (less2_trans (hl b hr) e)
    · obtain rfl : S = k := by omega
      exact .inl rfl⟩
theorem best_end {p : List Nat → Bool} {n : Nat} {r : Option (List Nat)} (h : BestP p n (2 ^ n) r) : fewestL p n = r := by
  cases hf : fewestL p n with
  | none =>
    cases r with
    | none => rfl
    | some b =>
      obtain ⟨h1, h2, _⟩ := h.2 b rfl
      rw [fewest_none hf b h2] at h1; cases h1
  | some l =>
    obtain ⟨f1, f2, _, _⟩ := fewest_some hf
    obtain ⟨S, hS, rfl⟩ := bits_onto f2
    cases r with
    | none => rw [h.1 rfl S hS] at f1; cases f1
    | some b =>
      obtain ⟨h1, h2, h3⟩ := h.2 b rfl
      rcases h3 S hS f1 with e | e
      · rw [e]
      · rcases fewest_lex hf h2 h1 with k | k
        · rw [k]
        · exact (less2_asymm e k).elim
theorem bits_len (S i : Nat) : (bitsL S i).length ≤ i := by
  have := List.length_filter_le (fun i => S.testBit i) (List.range i)
  rw [List.length_range] at this; exact this
end Globe

end Go.Proofs.YtglfoglkdbbmmaaDoor
