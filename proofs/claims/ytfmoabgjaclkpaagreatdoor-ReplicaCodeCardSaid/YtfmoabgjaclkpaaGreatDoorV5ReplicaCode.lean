/- Part 5 of what the proof of ReplicaCode stands on. -/
import Derived.Test.YtfmoabgjaclkpaaGreatDoorV4ReplicaCode
import Derived.Laws.IdiomStrings
import Derived.Laws.BytesArg
import Derived.Lib.ConvBytes
namespace Go.Proofs.YtfmoabgjaclkpaaGreatDoor
set_option maxRecDepth 1000000
set_option maxHeartbeats 4000000
set_option synthInstance.maxHeartbeats 0
set_option synthInstance.maxSize 9999
open Go.RowKit
def Tz42_0 : List Row := [(some 16, [0], []), (some 17, [5], []), (some 18, [16, 17], [0, 1]), (some 19, [18], [2]), (some 20, [1], []), (some 21, [5], []), (some 22, [20, 21], [4, 5]), (some 23, [22], [6]), (some 24, [19, 23], [3, 7])]
theorem merge_ok {c1 c2 : Int} {l1 l2 l : List Rec} (h : Rep.mergeF c1 l1 c2 l2 = some l) : Rep.okM c1 l1 c2 l2 := Classical.byContradiction fun q => by unfold Rep.mergeF at h; rw [if_neg q] at h; cases h
theorem behind_none {c1 c2 : Int} {l1 l2 : List Rec} (h : Rep.mergeF c1 l1 c2 l2 = none) : Rep.behindF c1 l1 c2 l2 = none := if_neg fun q => by unfold Rep.mergeF at h; rw [if_pos q] at h; cases h
theorem OptL.y {w' : World} {l : List Rec} {a : Option Addr} {n k : Nat} {er : Int} (h : OptL w' (some l) a n k er) : er = 0 ∧ RecsAt w' a n l ∧ n ≤ k := by
 rcases h with ⟨l', h1, h2⟩ | ⟨h, _⟩
 · cases h1; exact h2
 · cases h
theorem OptL.n {w' : World} {a : Option Addr} {n k : Nat} {er : Int} (h : OptL w' none a n k er) : er = 350 ∧ a = none ∧ n = 0 ∧ k = 0 := by
 rcases h with ⟨l', h1, h2⟩ | ⟨_, h⟩
 · cases h1
 · exact h
theorem Equal_c {w1 w2 : World} {a1 a2 : Option Addr} {n1 n2 : Nat} {l1 l2 : List Rec} (c1 c2 : Nat) (w : World) (H1 : RecsAt w1 a1 n1 l1) (e1 : Ext w1 w) (H2 : RecsAt w2 a2 n2 l2) (e2 : Ext w2 w) : Calls Tryz.prog 69 #[.slice a1 n1 c1, .slice a2 n2 c2] w fun e w' => e = .returned (.bool (decide (l1 = l2))) ∧ Ext w w' := by
 replace H1 := H1.ext e1;clear e1;replace H2 := H2.ext e2;clear e2;obtain ⟨b1, o1, Ba, B3, B0⟩ := H1.parts;have B7 := H1.len;have Bf := H1.max;obtain ⟨b2, o2, Bb, B4, B2⟩ := H2.parts;have B8 := H2.len;have Bg := H2.max;refine calls_cw 26 [(1, .slice a2 n2 c2), (0, .slice a1 n1 c1)] Tryz.func69 rfl Tryz.ntmps69 (by kernel_rfl) (by kernel_rfl) (fun L => ?_);have hE := Ext.refl w;refine zc (zp (pT (.bool false) ?_));refine zn (zc (cw_seq ?_))
 by_cases hnn : n1 = n2
 ·
  refine zp (pD (.slice a1 n1 c1) (iv n1) ?_);refine pD (.slice a2 n2 c2) (iv n2) ?_;refine pU (.bool false) (ev_nne (show _ = Result.ok (Next.value (Value.bool (((n1 : Nat) : Int) != ((n2 : Nat) : Int)))) _ from by kernel_rfl) (by omega)) ?_;refine zn (zf ?_);refine cw_skip (zq (zc (zc (zp (pD (.slice a1 n1 c1) (iv n1) ?_)))));refine pT (iv 0) ?_;refine zn (cw_block ?_);refine cw_loop [0, 1, 12, 13] (fun ws' wr m => ∃ i : Nat, ws' = [(0, .slice a1 n1 c1), (1, .slice a2 n2 c2), (12, iv n1), (13, iv i)] ∧ m = n1 - i ∧ w.heap.size ≤ wr.heap.size ∧ Ext w wr ∧ i ≤ n1 ∧ (∀ j, j < i → recN l1 j = recN l2 j)) (ws0 := [(0, .slice a1 n1 c1), (1, .slice a2 n2 c2), (12, iv n1), (13, iv 0)]) (by kernel_rfl) _ ⟨0, rfl, rfl, Nat.le_refl _, hE, Nat.zero_le _, (fun j hj => absurd hj (Nat.not_lt_zero j))⟩ ?_;clear hE;rintro m3 L ws w2 ⟨i, rfl, rfl, Bh, hE, hi, hno⟩
  by_cases hlt : i < n1
  ·
   obtain rfl := Ba (by omega);have Bc := B3 (by omega);obtain rfl := Bb (by omega);have Be := B4 (by omega);refine zc (zp (pU (.bool true) (ed (((i : Nat) : Int) < ((n1 : Nat) : Int)) (by omega)) ?_));refine zn (zc (zt ?_));refine cw_skip (zq (zc (cw_block ?_)));refine zc (zp (pD (iv i) (iv i) ?_));refine zn (cw_seq ?_)
   by_cases hq : recN l1 i = recN l2 i
   ·
    refine dE Tz42_0 (fun w' => w'.cell? ⟨b1, o1 + i * 7, none⟩ = some (iv ((recN l1 i).c : Int)) ∧ w'.cell? ⟨b1, o1 + i * 7 + 1, none⟩ = some (iv ((recN l1 i).n : Int)) ∧ w'.cell? ⟨b1, o1 + i * 7 + 2, none⟩ = some (iv ((recN l1 i).t : Int)) ∧ w'.cell? ⟨b1, o1 + i * 7 + 3, none⟩ = some (iv ((recN l1 i).o : Int)) ∧ w'.cell? ⟨b1, o1 + i * 7 + 4, none⟩ = some (iv ((recN l1 i).w : Int)) ∧ w'.cell? ⟨b1, o1 + i * 7 + 5, none⟩ = some (iv ((recN l1 i).k : Int)) ∧ w'.cell? ⟨b1, o1 + i * 7 + 6, none⟩ = some (.string ((recN l1 i).x)) ∧ w'.cell? ⟨b2, o2 + i * 7, none⟩ = some (iv ((recN l2 i).c : Int)) ∧ w'.cell? ⟨b2, o2 + i * 7 + 1, none⟩ = some (iv ((recN l2 i).n : Int)) ∧ w'.cell? ⟨b2, o2 + i * 7 + 2, none⟩ = some (iv ((recN l2 i).t : Int)) ∧ w'.cell? ⟨b2, o2 + i * 7 + 3, none⟩ = some (iv ((recN l2 i).o : Int)) ∧ w'.cell? ⟨b2, o2 + i * 7 + 4, none⟩ = some (iv ((recN l2 i).w : Int)) ∧ w'.cell? ⟨b2, o2 + i * 7 + 5, none⟩ = some (iv ((recN l2 i).k : Int)) ∧ w'.cell? ⟨b2, o2 + i * 7 + 6, none⟩ = some (.string ((recN l2 i).x))) (⟨(B0.ext hE).c0 (i := i) (by omega), (B0.ext hE).c1 (i := i) (by omega), (B0.ext hE).c2 (i := i) (by omega), (B0.ext hE).c3 (i := i) (by omega), (B0.ext hE).c4 (i := i) (by omega), (B0.ext hE).c5 (i := i) (by omega), (B0.ext hE).c6 (i := i) (by omega), (B2.ext hE).c0 (i := i) (by omega), (B2.ext hE).c1 (i := i) (by omega), (B2.ext hE).c2 (i := i) (by omega), (B2.ext hE).c3 (i := i) (by omega), (B2.ext hE).c4 (i := i) (by omega), (B2.ext hE).c5 (i := i) (by omega), (B2.ext hE).c6 (i := i) (by omega)⟩) (fun ops Q X4 hb hL hR hK => ?_);replace hE := hE.trans hb;have Bi := hb.size;have hS := A14 ((B0.ext hE).c0 (i := i) (by omega)) ((B0.ext hE).c1 (i := i) (by omega)) ((B0.ext hE).c2 (i := i) (by omega)) ((B0.ext hE).c3 (i := i) (by omega)) ((B0.ext hE).c4 (i := i) (by omega)) ((B0.ext hE).c5 (i := i) (by omega)) ((B0.ext hE).c6 (i := i) (by omega)) ((B2.ext hE).c0 (i := i) (by omega)) ((B2.ext hE).c1 (i := i) (by omega)) ((B2.ext hE).c2 (i := i) (by omega)) ((B2.ext hE).c3 (i := i) (by omega)) ((B2.ext hE).c4 (i := i) (by omega)) ((B2.ext hE).c5 (i := i) (by omega)) ((B2.ext hE).c6 (i := i) (by omega));refine wW 0 (sv b1 o1 n1 c1) 1 (iv i) hR hS ?_;refine wL 2 (pw b1 (o1 + i * 7)) hR (fun w _ => ex_index (p := sv b1 o1 n1 c1) (i := iv i) rfl (by kernel_rfl) (by kernel_rfl) (ix23 (k := i) (by omega))) hS ?_;refine wM 3 (.agg #[iv ((recN l1 i).c : Int), iv ((recN l1 i).n : Int), iv ((recN l1 i).t : Int), iv ((recN l1 i).o : Int), iv ((recN l1 i).w : Int), iv ((recN l1 i).k : Int), .string ((recN l1 i).x)]) hR (fun w hS => ld49 (hS.1) (hS.2.1) (hS.2.2.1) (hS.2.2.2.1) (hS.2.2.2.2.1) (hS.2.2.2.2.2.1) (hS.2.2.2.2.2.2.1)) hS ?_;refine wW 4 (sv b2 o2 n2 c2) 5 (iv i) hR hS ?_;refine wL 6 (pw b2 (o2 + i * 7)) hR (fun w _ => ex_index (p := sv b2 o2 n2 c2) (i := iv i) rfl (by kernel_rfl) (by kernel_rfl) (ix23 (k := i) (by omega))) hS ?_;refine wM 7 (.agg #[iv ((recN l2 i).c : Int), iv ((recN l2 i).n : Int), iv ((recN l2 i).t : Int), iv ((recN l2 i).o : Int), iv ((recN l2 i).w : Int), iv ((recN l2 i).k : Int), .string ((recN l2 i).x)]) hR (fun w hS => ld49 (hS.2.2.2.2.2.2.2.1) (hS.2.2.2.2.2.2.2.2.1) (hS.2.2.2.2.2.2.2.2.2.1) (hS.2.2.2.2.2.2.2.2.2.2.1) (hS.2.2.2.2.2.2.2.2.2.2.2.1) (hS.2.2.2.2.2.2.2.2.2.2.2.2.1) (hS.2.2.2.2.2.2.2.2.2.2.2.2.2)) hS ?_;refine wL 8 (.bool false) hR (fun w _ => ex_binV (a := .agg #[iv ((recN l1 i).c : Int), iv ((recN l1 i).n : Int), iv ((recN l1 i).t : Int), iv ((recN l1 i).o : Int), iv ((recN l1 i).w : Int), iv ((recN l1 i).k : Int), .string ((recN l1 i).x)]) (b := .agg #[iv ((recN l2 i).c : Int), iv ((recN l2 i).n : Int), iv ((recN l2 i).t : Int), iv ((recN l2 i).o : Int), iv ((recN l2 i).w : Int), iv ((recN l2 i).k : Int), .string ((recN l2 i).x)]) rfl (by kernel_rfl) (by kernel_rfl) (eqG_agg (by kernel_rfl)) (bin_nqv_t (rec_eq _ ((recN l1 i)) ((recN l2 i))) hq)) hS ?_;refine we hL hR hK ?_;refine zq (cK [0,1,12,13,24] (fun L => ?_));refine zf ?_;refine cw_skip (qw_block (zq (zp (pU (iv ((i + 1 : Nat) : Int)) (ew (by omega) (by omega)) ?_))));refine pT (iv ((i + 1 : Nat) : Int)) ?_;refine pl_nil (zr [0, 1, 12, 13] _ ?_ ⟨(i + 1), rfl, rfl, (T Bh Bi), hE, by omega, (fun j hj => by rcases Nat.lt_succ_iff_lt_or_eq.1 hj with h | h; exact hno j h; rw [h]; exact hq)⟩);omega
   ·
    refine dE Tz42_0 (fun w' => w'.cell? ⟨b1, o1 + i * 7, none⟩ = some (iv ((recN l1 i).c : Int)) ∧ w'.cell? ⟨b1, o1 + i * 7 + 1, none⟩ = some (iv ((recN l1 i).n : Int)) ∧ w'.cell? ⟨b1, o1 + i * 7 + 2, none⟩ = some (iv ((recN l1 i).t : Int)) ∧ w'.cell? ⟨b1, o1 + i * 7 + 3, none⟩ = some (iv ((recN l1 i).o : Int)) ∧ w'.cell? ⟨b1, o1 + i * 7 + 4, none⟩ = some (iv ((recN l1 i).w : Int)) ∧ w'.cell? ⟨b1, o1 + i * 7 + 5, none⟩ = some (iv ((recN l1 i).k : Int)) ∧ w'.cell? ⟨b1, o1 + i * 7 + 6, none⟩ = some (.string ((recN l1 i).x)) ∧ w'.cell? ⟨b2, o2 + i * 7, none⟩ = some (iv ((recN l2 i).c : Int)) ∧ w'.cell? ⟨b2, o2 + i * 7 + 1, none⟩ = some (iv ((recN l2 i).n : Int)) ∧ w'.cell? ⟨b2, o2 + i * 7 + 2, none⟩ = some (iv ((recN l2 i).t : Int)) ∧ w'.cell? ⟨b2, o2 + i * 7 + 3, none⟩ = some (iv ((recN l2 i).o : Int)) ∧ w'.cell? ⟨b2, o2 + i * 7 + 4, none⟩ = some (iv ((recN l2 i).w : Int)) ∧ w'.cell? ⟨b2, o2 + i * 7 + 5, none⟩ = some (iv ((recN l2 i).k : Int)) ∧ w'.cell? ⟨b2, o2 + i * 7 + 6, none⟩ = some (.string ((recN l2 i).x))) (⟨(B0.ext hE).c0 (i := i) (by omega), (B0.ext hE).c1 (i := i) (by omega), (B0.ext hE).c2 (i := i) (by omega), (B0.ext hE).c3 (i := i) (by omega), (B0.ext hE).c4 (i := i) (by omega), (B0.ext hE).c5 (i := i) (by omega), (B0.ext hE).c6 (i := i) (by omega), (B2.ext hE).c0 (i := i) (by omega), (B2.ext hE).c1 (i := i) (by omega), (B2.ext hE).c2 (i := i) (by omega), (B2.ext hE).c3 (i := i) (by omega), (B2.ext hE).c4 (i := i) (by omega), (B2.ext hE).c5 (i := i) (by omega), (B2.ext hE).c6 (i := i) (by omega)⟩) (fun ops Q X6 hb hL hR hK => ?_);replace hE := hE.trans hb;have Bj := hb.size;have hS := A14 ((B0.ext hE).c0 (i := i) (by omega)) ((B0.ext hE).c1 (i := i) (by omega)) ((B0.ext hE).c2 (i := i) (by omega)) ((B0.ext hE).c3 (i := i) (by omega)) ((B0.ext hE).c4 (i := i) (by omega)) ((B0.ext hE).c5 (i := i) (by omega)) ((B0.ext hE).c6 (i := i) (by omega)) ((B2.ext hE).c0 (i := i) (by omega)) ((B2.ext hE).c1 (i := i) (by omega)) ((B2.ext hE).c2 (i := i) (by omega)) ((B2.ext hE).c3 (i := i) (by omega)) ((B2.ext hE).c4 (i := i) (by omega)) ((B2.ext hE).c5 (i := i) (by omega)) ((B2.ext hE).c6 (i := i) (by omega));refine wW 0 (sv b1 o1 n1 c1) 1 (iv i) hR hS ?_;refine wL 2 (pw b1 (o1 + i * 7)) hR (fun w _ => ex_index (p := sv b1 o1 n1 c1) (i := iv i) rfl (by kernel_rfl) (by kernel_rfl) (ix23 (k := i) (by omega))) hS ?_;refine wM 3 (.agg #[iv ((recN l1 i).c : Int), iv ((recN l1 i).n : Int), iv ((recN l1 i).t : Int), iv ((recN l1 i).o : Int), iv ((recN l1 i).w : Int), iv ((recN l1 i).k : Int), .string ((recN l1 i).x)]) hR (fun w hS => ld49 (hS.1) (hS.2.1) (hS.2.2.1) (hS.2.2.2.1) (hS.2.2.2.2.1) (hS.2.2.2.2.2.1) (hS.2.2.2.2.2.2.1)) hS ?_;refine wW 4 (sv b2 o2 n2 c2) 5 (iv i) hR hS ?_;refine wL 6 (pw b2 (o2 + i * 7)) hR (fun w _ => ex_index (p := sv b2 o2 n2 c2) (i := iv i) rfl (by kernel_rfl) (by kernel_rfl) (ix23 (k := i) (by omega))) hS ?_;refine wM 7 (.agg #[iv ((recN l2 i).c : Int), iv ((recN l2 i).n : Int), iv ((recN l2 i).t : Int), iv ((recN l2 i).o : Int), iv ((recN l2 i).w : Int), iv ((recN l2 i).k : Int), .string ((recN l2 i).x)]) hR (fun w hS => ld49 (hS.2.2.2.2.2.2.2.1) (hS.2.2.2.2.2.2.2.2.1) (hS.2.2.2.2.2.2.2.2.2.1) (hS.2.2.2.2.2.2.2.2.2.2.1) (hS.2.2.2.2.2.2.2.2.2.2.2.1) (hS.2.2.2.2.2.2.2.2.2.2.2.2.1) (hS.2.2.2.2.2.2.2.2.2.2.2.2.2)) hS ?_;refine wL 8 (.bool true) hR (fun w _ => ex_binV (a := .agg #[iv ((recN l1 i).c : Int), iv ((recN l1 i).n : Int), iv ((recN l1 i).t : Int), iv ((recN l1 i).o : Int), iv ((recN l1 i).w : Int), iv ((recN l1 i).k : Int), .string ((recN l1 i).x)]) (b := .agg #[iv ((recN l2 i).c : Int), iv ((recN l2 i).n : Int), iv ((recN l2 i).t : Int), iv ((recN l2 i).o : Int), iv ((recN l2 i).w : Int), iv ((recN l2 i).k : Int), .string ((recN l2 i).x)]) rfl (by kernel_rfl) (by kernel_rfl) (eqG_agg (by kernel_rfl)) (bin_nqv_f (rec_eq _ ((recN l1 i)) ((recN l2 i))) hq)) hS ?_;refine we hL hR hK ?_;refine zq (cK [0,1,12,13,24] (fun L => ?_));refine zt ?_;refine zc (zp (pT (.bool false) ?_));refine zn (cw_ret (qw_block_ret (qw_then_ret (qw_then_ret (qw_block_ret (qw_then_ret (qw_ret [.bool false] rfl ⟨(by kernel_rfl), trivial⟩ ?_)))))));exact ⟨rb (decide_eq_false fun e => hq (by rw [e])).symm, hE⟩
  ·
   refine zc (zp (pU (.bool false) (en (((i : Nat) : Int) < ((n1 : Nat) : Int)) (by omega)) ?_));refine zn (zc (zf ?_));refine cw_exit (qw_then_exit (qw_then_exit (qw_block_out (zq (zc (zp (pT (.bool true) ?_)))))));refine zn (cw_ret (qw_ret [.bool true] rfl ⟨(by kernel_rfl), trivial⟩ ?_));exact ⟨rb (decide_eq_true (Rep.rec_ext (by omega) fun j hj => hno j (by omega))).symm, hE⟩
 ·
  refine zp (pD (.slice a1 n1 c1) (iv n1) ?_);refine pD (.slice a2 n2 c2) (iv n2) ?_;refine pU (.bool true) (eM ((n1 : Nat) : Int) ((n2 : Nat) : Int) (by omega)) ?_;refine zn (zt ?_);refine zc (zp (pT (.bool false) ?_));refine zn (cw_ret (qw_then_ret (qw_ret [.bool false] rfl ⟨(by kernel_rfl), trivial⟩ ?_)));exact ⟨rb (decide_eq_false fun e => hnn (by rw [← B7, ← B8, e])).symm, hE⟩
theorem Same_c {w1 w2 : World} {a1 a2 : Option Addr} {n1 n2 : Nat} {l1 l2 : List Rec} {c1 c2 : Int} (k1 k2 : Nat) (w : World) (H1 : RecsAt w1 a1 n1 l1) (e1 : Ext w1 w) (H2 : RecsAt w2 a2 n2 l2) (e2 : Ext w2 w) : Calls Tryz.prog 30 #[.agg #[iv c1, .slice a1 n1 k1], .agg #[iv c2, .slice a2 n2 k2]] w fun e w' => e = .returned (.bool (decide (c1 = c2 ∧ l1 = l2))) ∧ Ext w w' := by
 refine calls_cw 17 [(1, .agg #[iv c2, .slice a2 n2 k2]), (0, .agg #[iv c1, .slice a1 n1 k1])] Tryz.func30 rfl Tryz.ntmps30 (by kernel_rfl) (by kernel_rfl) (fun L => ?_);have hE := Ext.refl w;refine zc (zp (pS (sw 25 #[iv c1, .slice a1 n1 k1] ?_)));intro O1 X2 hzO1 hyO1 hb hbx;have ⟨bO1_0, bO1_1⟩ := bq2 hbx;replace hE := hE.trans hb;have hs3 := hb.size;have lt4 := bO1_0.lt;refine pS (sw 25 #[iv c2, .slice a2 n2 k2] ?_);intro O5 X6 hzO5 hyO5 hb hbx;have ⟨bO5_0, bO5_1⟩ := bq2 hbx;refine mv3 hb hE bO1_0 bO1_1 fun hE bO1_0 bO1_1=>?_;have hs7 := hb.size;have lt8 := bO5_0.lt;refine pT (.bool false) ?_;refine zn (cw_seq ?_)
 by_cases hc : c1 = c2
 ·
  have hX9 := Ext.refl X6;refine zp (pT (pw O1 0) ?_);refine pU (iv c1) (xl (ld3 (bO1_0.1))) ?_;refine pT (pw O5 0) ?_;refine pU (iv c2) (xl (ld3 (bO5_0.1))) ?_;refine pU (.bool true) (eE (c1 : Int) (c2 : Int) (hc)) ?_;refine pD (.bool true) (pw O1 1) ?_;refine pU (.slice a1 n1 k1) (xl (ld23 (bO1_1.1))) ?_;refine pT (pw O5 1) ?_;refine pU (.slice a2 n2 k2) (xl (ld23 (bO5_1.1))) ?_;refine pS (sc 69 #[.slice a1 n1 k1, .slice a2 n2 k2] ((Equal_c _ _ _ H1 (e1.trans hE) H2 (e2.trans hE)).mono ?_));rintro e w10 ⟨rfl, hb⟩;replace hE := hE.trans hb;have hs11 := hb.size;refine ⟨_, rfl, pD (.bool (decide (l1 = l2))) (.bool (decide (l1 = l2))) ?_⟩;refine zn (cK [4] (fun L => ?_));refine cw_ret (qw_ret [.bool (decide (l1 = l2))] rfl ⟨(by kernel_rfl), trivial⟩ ?_);exact ⟨rb (show decide (c1 = c2 ∧ l1 = l2) = decide (l1 = l2) by simp [hc]).symm, hE⟩
 ·
  have hX12 := Ext.refl X6;refine zp (pT (pw O1 0) ?_);refine pU (iv c1) (xl (ld3 (bO1_0.1))) ?_;refine pT (pw O5 0) ?_;refine pU (iv c2) (xl (ld3 (bO5_0.1))) ?_;refine pU (.bool false) (eN (c1 : Int) (c2 : Int) (hc)) ?_;refine pT (.bool false) ?_;refine pK ?_;refine pK ?_;refine pK ?_;refine pK ?_;refine pK ?_;refine pD (.bool false) (.bool false) ?_;refine zn (cK [4] (fun L => ?_));refine cw_ret (qw_ret [.bool false] rfl ⟨(by kernel_rfl), trivial⟩ ?_);exact ⟨rb (show decide (c1 = c2 ∧ l1 = l2) = false by simp [hc]).symm, hE⟩
theorem Behind_0 {w1 w2 : World} {c1 c2 : Int} {a1 a2 : Option Addr} {n1 : Nat} {l1 l2 : List Rec} (k1 k2 : Nat) (w : World) (H1 : RecsAt w1 a1 n1 l1) (e1 : Ext w1 w) (H2 : RecsAt w2 a2 0 l2) (e2 : Ext w2 w) (hRl : RootAt w) : Calls Tryz.prog 28 #[.agg #[iv c1, .slice a1 n1 k1], .agg #[iv c2, .slice a2 0 k2]] w fun e w' => ∃ a' n' k' er, e = .returned (.tuple #[.slice a' n' k', iv er]) ∧ OptL w' (Rep.behindF c1 l1 c2 l2) a' n' k' er ∧ Ext w w' := by
 replace H1 := H1.ext e1;clear e1;replace H2 := H2.ext e2;clear e2;refine calls_cw 26 [(1, .agg #[iv c2, .slice a2 0 k2]), (0, .agg #[iv c1, .slice a1 n1 k1])] Tryz.func28 rfl Tryz.ntmps28 (by kernel_rfl) (by kernel_rfl) (fun L => ?_);have hE := Ext.refl w;refine zc (zp (pS (sw 25 #[iv c1, .slice a1 n1 k1] ?_)));intro O1 X2 Cl Cj hb hbx;have ⟨B0, B2⟩ := bq2 hbx;replace hE := hE.trans hb;have Bu := hb.size;have Bx := B0.lt;refine pS (sw 25 #[iv c2, .slice a2 0 k2] ?_);intro O5 X6 Cm Ck hb hbx;have ⟨B3, B4⟩ := bq2 hbx;refine mv3 hb hE B0 B2 fun hE B0 B2=>?_;have Bp := hb.size;have By := B3.lt;refine pD (.slice none 0 0) (iv 0) ?_;refine zn (zc (cw_seq ?_));rcases ho : Rep.mergeF c1 l1 c2 l2 with _ | lm
 ·
  refine zp (pU (.agg #[iv c1, .slice a1 n1 k1]) (xl (ld25 (B0.1) (B2.1))) ?_);refine pU (.agg #[iv c2, .slice a2 0 k2]) (xl (ld25 (B3.1) (B4.1))) ?_;refine pS (sc 26 #[.agg #[iv c1, .slice a1 n1 k1], .agg #[iv c2, .slice a2 0 k2]] ((Merge_n _ _ _ H1 hE H2 hE (hRl.ext hE) ho).mono ?_));rintro e w9 ⟨rfl, hb⟩;refine mv5 hb hE B0 B2 B3 B4 fun hE B0 B2 B3 B4=>?_;have Bn := hb.size;refine ⟨_, rfl, pD (.tuple #[.agg #[iv 0, .slice none 0 0], iv 350]) (.agg #[iv 0, .slice none 0 0]) ?_⟩;refine pT (iv 350) ?_;refine pS (sw 25 #[iv 0, .slice none 0 0] ?_);intro C0 C5 Bh C2 hb hbx;have ⟨Bb, Bc⟩ := bq2 hbx;refine mv5 hb hE B0 B2 B3 B4 fun hE B0 B2 B3 B4=>?_;have Cd := hb.size;have Cn := Bb.lt;refine pP (sn_set2 (O := C0) (j := 0) (v := iv 0) (v' := .slice none 0 0) (xt (pw C0 0) (.agg #[iv 0, .slice none 0 0]) (st25 Bb.1 Bb.2 Bc.1 Bc.2)) Bb Bc ?_);intro C6 ho Bb Bc hk;replace hE := ho.ext hE (T (T Bu (T Bp Bn)) (Nat.le_of_eq Bh));have q9 := ho.bx O1 (by omega);replace B0 := q9 B0;replace B2 := q9 B2;clear q9;have q9 := ho.bx O5 (by omega);replace B3 := q9 B3;replace B4 := q9 B4;clear q9;have Ce := Nat.le_of_eq ho.size.symm;clear ho hk;refine pT (iv 350) ?_;refine zn (zc (zp (pD (iv 350) (.bool true) ?_)));refine zn (cK [2,3,7,16] (fun L => ?_));refine zt ?_;refine zc (zp (pD (iv 350) (.slice none 0 0) ?_));refine pT (iv 350) ?_;refine zn (cw_ret (qw_then_ret (qw_ret [.slice none 0 0, iv 350] rfl ⟨(by kernel_rfl), (by kernel_rfl), trivial⟩ ?_)));exact ⟨_, _, _, _, rfl, .inr ⟨behind_none ho, rfl, rfl, rfl, rfl⟩, hE⟩
 ·
  have hok := merge_ok ho;have Bq := Rep.valid_vd hok.1;have Cs := Rep.valid_len hok.1;have Ct := Rep.valid_len hok.2.1;have Cb := H1.len;have Bt := H2.len;refine zp (pU (.agg #[iv c1, .slice a1 n1 k1]) (xl (ld25 (B0.1) (B2.1))) ?_);refine pU (.agg #[iv c2, .slice a2 0 k2]) (xl (ld25 (B3.1) (B4.1))) ?_;refine pS (sc 26 #[.agg #[iv c1, .slice a1 n1 k1], .agg #[iv c2, .slice a2 0 k2]] ((Merge_y _ _ _ H1 hE H2 hE (hRl.ext hE) ho).mono ?_));rintro e Cu ⟨a3, n3, k3, rfl, Cr, Cp, Cq, hb⟩;refine mv3 hb hE B2 B4 fun hE B2 B4=>?_;have Bg := hb.size;refine ⟨_, rfl, pD (.tuple #[.agg #[iv c1, .slice a3 n3 k3], iv 0]) (.agg #[iv c1, .slice a3 n3 k3]) ?_⟩;refine pT (iv 0) ?_;refine pS (sw 25 #[iv 0, .slice none 0 0] ?_);intro Bs C7 Bi C3 hb hbx;have ⟨B7, B8⟩ := bq2 hbx;refine mv3 hb hE B2 B4 fun hE B2 B4=>?_;have Bo := hb.size;have Bv := B7.lt;refine pP (sn_set2 (O := Bs) (j := 0) (v := iv c1) (v' := .slice a3 n3 k3) (xt (pw Bs 0) (.agg #[iv c1, .slice a3 n3 k3]) (st25 B7.1 B7.2 B8.1 B8.2)) B7 B8 ?_);intro C8 ho B7 B8 hk;replace hE := ho.ext hE (T (T Bu (T Bp Bg)) (Nat.le_of_eq Bi));have q9 := ho.bx O1 (by omega);replace B2 := q9 B2;clear q9;have q9 := ho.bx O5 (by omega);replace B4 := q9 B4;clear q9;have Bj := Nat.le_of_eq ho.size.symm;clear ho hk;refine pT (iv 0) ?_;refine zn (zc (zp (pD (iv 0) (.bool false) ?_)));refine zn (cK [2,3,7,16] (fun L => ?_));refine zf ?_;refine cw_skip (zq (zc (zp (pT (pw O1 1) ?_))));refine pU (.slice a1 n1 k1) (xl (ld23 (B2.1))) ?_;refine pS (sc 52 #[.slice a1 n1 k1] ((booked_c _ _ H1 hE).mono ?_));rintro e Cv ⟨Bz, rfl, Cc, Be, hb⟩;refine mv2 hb hE B4 fun hE B4=>?_;have Bk := hb.size;have Bw := Be.lt;refine ⟨_, rfl, pS (sw 79 #[.map none] ?_)⟩;intro Br C9 Bf C4 hb hbx;have Ba := bq1 hbx;refine mv3 hb hE B4 Be fun hE B4 Be=>?_;have Cf := hb.size;have Co := Ba.lt;refine pP (zE Br 0 (.map (some Bz)) (st79 Ba.1 Ba.2) Ba ?_);intro Ca ho Ba hk;replace hE := ho.ext hE (by omega);have q9 := ho.bx O1 (by omega);clear q9;have q9 := ho.bx O5 (by omega);replace B4 := q9 B4;clear q9;have q9 := ho.bx Bs (by omega);clear q9;replace Be := Be.block (ho.heap' _ (by omega));have Cg := Nat.le_of_eq ho.size.symm;clear ho hk;refine zn (zc (zp (pT (pw O5 1) ?_)));refine pU (.slice a2 0 k2) (xl (ld23 (B4.1))) ?_;refine pS (sc 66 #[.slice a2 0 k2] ((Clone_0 _ _ H2 hE).mono ?_));rintro e Cw ⟨a9, c9, rfl, C1, hb⟩;refine mv3 hb hE Be Ba fun hE Be Ba=>?_;have Ch := hb.size;refine ⟨_, rfl, pT (.func (.func 67) #[] #[pw Br 0]) ?_⟩;refine pS (sc 65 #[.slice a9 0 c9, .func (.func 67) #[] #[pw Br 0]] ((Delete_0 _ ⟨rfl, Nat.zero_le _, C1.imp id (fun ⟨g, e⟩ => ⟨g, 0, e⟩), .inl rfl⟩ Be (Ext.refl _) Ba.1 (Ext.refl _)).mono ?_));rintro e Cx ⟨rfl, hb⟩;replace hE := hE.trans hb;have Ci := hb.size;refine ⟨_, rfl, pD (.slice a9 0 c9) (iv 0) ?_⟩;refine zn (cK [4,5] (fun L => ?_));refine cw_ret (qw_ret [.slice a9 0 c9, iv 0] rfl ⟨(by kernel_rfl), (by kernel_rfl), trivial⟩ ?_);obtain rfl := List.eq_nil_of_length_eq_zero Bt;exact ⟨_, _, _, _, rfl, .inl ⟨_, if_pos hok, rfl, ⟨rfl, Nat.zero_le _, C1.imp id (fun ⟨g, e⟩ => ⟨g, 0, e⟩), .inl rfl⟩, Nat.zero_le _⟩, hE⟩
theorem Behind_p {w1 w2 : World} {c1 c2 : Int} {a1 a2 : Option Addr} {n1 n2 : Nat} {l1 l2 : List Rec} (k1 k2 : Nat) (w : World) (H1 : RecsAt w1 a1 n1 l1) (e1 : Ext w1 w) (H2 : RecsAt w2 a2 n2 l2) (e2 : Ext w2 w) (hRl : RootAt w) (hp : 0 < n2) : Calls Tryz.prog 28 #[.agg #[iv c1, .slice a1 n1 k1], .agg #[iv c2, .slice a2 n2 k2]] w fun e w' => ∃ a' n' k' er, e = .returned (.tuple #[.slice a' n' k', iv er]) ∧ OptL w' (Rep.behindF c1 l1 c2 l2) a' n' k' er ∧ Ext w w' := by
 replace H1 := H1.ext e1;clear e1;replace H2 := H2.ext e2;clear e2;refine calls_cw 26 [(1, .agg #[iv c2, .slice a2 n2 k2]), (0, .agg #[iv c1, .slice a1 n1 k1])] Tryz.func28 rfl Tryz.ntmps28 (by kernel_rfl) (by kernel_rfl) (fun L => ?_);have hE := Ext.refl w;refine zc (zp (pS (sw 25 #[iv c1, .slice a1 n1 k1] ?_)));intro O1 X2 Cv Ct hb hbx;have ⟨B0, B2⟩ := bq2 hbx;replace hE := hE.trans hb;have C3 := hb.size;have C4 := B0.lt;refine pS (sw 25 #[iv c2, .slice a2 n2 k2] ?_);intro O5 X6 Cw Cu hb hbx;have ⟨B3, B4⟩ := bq2 hbx;refine mv3 hb hE B0 B2 fun hE B0 B2=>?_;have Br := hb.size;have C5 := B3.lt;refine pD (.slice none 0 0) (iv 0) ?_;refine zn (zc (cw_seq ?_));rcases ho : Rep.mergeF c1 l1 c2 l2 with _ | lm
 ·
  refine zp (pU (.agg #[iv c1, .slice a1 n1 k1]) (xl (ld25 (B0.1) (B2.1))) ?_);refine pU (.agg #[iv c2, .slice a2 n2 k2]) (xl (ld25 (B3.1) (B4.1))) ?_;refine pS (sc 26 #[.agg #[iv c1, .slice a1 n1 k1], .agg #[iv c2, .slice a2 n2 k2]] ((Merge_n _ _ _ H1 hE H2 hE (hRl.ext hE) ho).mono ?_));rintro e w9 ⟨rfl, hb⟩;refine mv5 hb hE B0 B2 B3 B4 fun hE B0 B2 B3 B4=>?_;have Bt := hb.size;refine ⟨_, rfl, pD (.tuple #[.agg #[iv 0, .slice none 0 0], iv 350]) (.agg #[iv 0, .slice none 0 0]) ?_⟩;refine pT (iv 350) ?_;refine pS (sw 25 #[iv 0, .slice none 0 0] ?_);intro Cc Ch Bo Cd hb hbx;have ⟨Bb, Bc⟩ := bq2 hbx;refine mv5 hb hE B0 B2 B3 B4 fun hE B0 B2 B3 B4=>?_;have Cp := hb.size;have Cx := Bb.lt;refine pP (sn_set2 (O := Cc) (j := 0) (v := iv 0) (v' := .slice none 0 0) (xt (pw Cc 0) (.agg #[iv 0, .slice none 0 0]) (st25 Bb.1 Bb.2 Bc.1 Bc.2)) Bb Bc ?_);intro Ci ho Bb Bc hk;replace hE := ho.ext hE (T (T C3 (T Br Bt)) (Nat.le_of_eq Bo));have q9 := ho.bx O1 (by omega);replace B0 := q9 B0;replace B2 := q9 B2;clear q9;have q9 := ho.bx O5 (by omega);replace B3 := q9 B3;replace B4 := q9 B4;clear q9;have Cq := Nat.le_of_eq ho.size.symm;clear ho hk;refine pT (iv 350) ?_;refine zn (zc (zp (pD (iv 350) (.bool true) ?_)));refine zn (cK [2,3,7,16] (fun L => ?_));refine zt ?_;refine zc (zp (pD (iv 350) (.slice none 0 0) ?_));refine pT (iv 350) ?_;refine zn (cw_ret (qw_then_ret (qw_ret [.slice none 0 0, iv 350] rfl ⟨(by kernel_rfl), (by kernel_rfl), trivial⟩ ?_)));exact ⟨_, _, _, _, rfl, .inr ⟨behind_none ho, rfl, rfl, rfl, rfl⟩, hE⟩
 ·
  have hok := merge_ok ho;have Bu := Rep.valid_vd hok.1;have D1 := Rep.valid_len hok.1;have D2 := Rep.valid_len hok.2.1;have Cn := H1.len;have Cb := H2.len;refine zp (pU (.agg #[iv c1, .slice a1 n1 k1]) (xl (ld25 (B0.1) (B2.1))) ?_);refine pU (.agg #[iv c2, .slice a2 n2 k2]) (xl (ld25 (B3.1) (B4.1))) ?_;refine pS (sc 26 #[.agg #[iv c1, .slice a1 n1 k1], .agg #[iv c2, .slice a2 n2 k2]] ((Merge_y _ _ _ H1 hE H2 hE (hRl.ext hE) ho).mono ?_));rintro e D4 ⟨a3, n3, k3, rfl, D0, Cy, Cz, hb⟩;refine mv3 hb hE B2 B4 fun hE B2 B4=>?_;have Bf := hb.size;refine ⟨_, rfl, pD (.tuple #[.agg #[iv c1, .slice a3 n3 k3], iv 0]) (.agg #[iv c1, .slice a3 n3 k3]) ?_⟩;refine pT (iv 0) ?_;refine pS (sw 25 #[iv 0, .slice none 0 0] ?_);intro Bw Cj Bp Ce hb hbx;have ⟨B7, B8⟩ := bq2 hbx;refine mv3 hb hE B2 B4 fun hE B2 B4=>?_;have Bm := hb.size;have C1 := B7.lt;refine pP (sn_set2 (O := Bw) (j := 0) (v := iv c1) (v' := .slice a3 n3 k3) (xt (pw Bw 0) (.agg #[iv c1, .slice a3 n3 k3]) (st25 B7.1 B7.2 B8.1 B8.2)) B7 B8 ?_);intro Ck ho B7 B8 hk;replace hE := ho.ext hE (T (T C3 (T Br Bf)) (Nat.le_of_eq Bp));have q9 := ho.bx O1 (by omega);replace B2 := q9 B2;clear q9;have q9 := ho.bx O5 (by omega);replace B4 := q9 B4;clear q9;have Bh := Nat.le_of_eq ho.size.symm;clear ho hk;refine pT (iv 0) ?_;refine zn (zc (zp (pD (iv 0) (.bool false) ?_)));refine zn (cK [2,3,7,16] (fun L => ?_));refine zf ?_;refine cw_skip (zq (zc (zp (pT (pw O1 1) ?_))));refine pU (.slice a1 n1 k1) (xl (ld23 (B2.1))) ?_;refine pS (sc 52 #[.slice a1 n1 k1] ((booked_c _ _ H1 hE).mono ?_));rintro e D5 ⟨C6, rfl, Co, Be, hb⟩;refine mv2 hb hE B4 fun hE B4=>?_;have Bi := hb.size;have Bv := Be.lt;refine ⟨_, rfl, pS (sw 79 #[.map none] ?_)⟩;intro Bx Cl Bk Cf hb hbx;have Ba := bq1 hbx;refine mv3 hb hE B4 Be fun hE B4 Be=>?_;have Bn := hb.size;have C2 := Ba.lt;refine pP (zE Bx 0 (.map (some C6)) (st79 Ba.1 Ba.2) Ba ?_);intro Cm ho Ba hk;replace hE := ho.ext hE (by omega);have q9 := ho.bx O1 (by omega);clear q9;have q9 := ho.bx O5 (by omega);replace B4 := q9 B4;clear q9;have q9 := ho.bx Bw (by omega);clear q9;replace Be := Be.block (ho.heap' _ (by omega));have Bj := Nat.le_of_eq ho.size.symm;clear ho hk;refine zn (zc (zp (pT (pw O5 1) ?_)));refine pU (.slice a2 n2 k2) (xl (ld23 (B4.1))) ?_;refine pS (sc 66 #[.slice a2 n2 k2] ((Clone_p _ _ H2 hE (by omega) hp).mono ?_));rintro e D6 ⟨Bq, C7, rfl, Bg, By, Ca, hb⟩;refine mv3 hb hE Be Ba fun hE Be Ba=>?_;have Cr := hb.size;have C9 := By.lt (i := 0) (by omega);refine ⟨_, rfl, pT (.func (.func 67) #[] #[pw Bx 0]) ?_⟩;refine pS (sc 65 #[sv Bq 0 n2 C7, .func (.func 67) #[] #[pw Bx 0]] ((Delete_c _ By Cb (Nat.lt_of_lt_of_le C9 (Nat.le_refl _)) Ca (by omega) Be Ba.1 (by omega) (Nat.lt_of_lt_of_le C2 (T Bj Bg))).mono ?_));rintro e D7 ⟨Cg, rfl, C8, C0, Bz, hw⟩;replace hE := hw.ext hE (fun k hk => (show k = Bq from hk) ▸ (by omega));have q9 := fun ⦃j : Nat⦄ ⦃v : Value⦄ (h : BoxAt _ O1 j v) => hw.box (fun hx => absurd (show O1 = Bq from hx) (by omega)) h
  clear q9;have q9 := fun ⦃j : Nat⦄ ⦃v : Value⦄ (h : BoxAt _ O5 j v) => hw.box (fun hx => absurd (show O5 = Bq from hx) (by omega)) h
  clear q9;have q9 := fun ⦃j : Nat⦄ ⦃v : Value⦄ (h : BoxAt _ Bw j v) => hw.box (fun hx => absurd (show Bw = Bq from hx) (by omega)) h
  clear q9;have Cs := hw.size;refine ⟨_, rfl, pD (sv Bq 0 Cg C7) (iv 0) ?_⟩;refine zn (cK [4,5] (fun L => ?_));refine cw_ret (qw_ret [sv Bq 0 Cg C7, iv 0] rfl ⟨(by kernel_rfl), (by kernel_rfl), trivial⟩ ?_);have D3 := List.length_filter_le (fun x => !Rep.knownB (Rep.bookL l1) x) l2;exact ⟨_, _, _, _, rfl, .inl ⟨_, if_pos hok, rfl, by rw [← Rep.known_more Bu.keys]; exact C8.at C0 (by omega), Bz⟩, hE⟩
theorem Behind_c {w1 w2 : World} {c1 c2 : Int} {a1 a2 : Option Addr} {n1 n2 : Nat} {l1 l2 : List Rec} (k1 k2 : Nat) (w : World) (H1 : RecsAt w1 a1 n1 l1) (e1 : Ext w1 w) (H2 : RecsAt w2 a2 n2 l2) (e2 : Ext w2 w) (hRl : RootAt w) : Calls Tryz.prog 28 #[.agg #[.int .i64 c1, .slice a1 n1 k1], .agg #[.int .i64 c2, .slice a2 n2 k2]] w fun e w' => ∃ a' n' k' er, e = .returned (.tuple #[.slice a' n' k', .int .i64 er]) ∧ OptL w' (Rep.behindF c1 l1 c2 l2) a' n' k' er ∧ Ext w w' := by
 rcases Nat.eq_zero_or_pos n2 with h0 | h0
 · subst h0; exact Behind_0 k1 k2 w H1 e1 H2 e2 hRl
 · exact Behind_p k1 k2 w H1 e1 H2 e2 hRl h0
theorem Behind_y {w1 w2 : World} {c1 c2 : Int} {a1 a2 : Option Addr} {n1 n2 : Nat} {l1 l2 : List Rec} {l' : List Rec} (k1 k2 : Nat) (w : World) (H1 : RecsAt w1 a1 n1 l1) (e1 : Ext w1 w) (H2 : RecsAt w2 a2 n2 l2) (e2 : Ext w2 w) (hRl : RootAt w) (ho : Rep.behindF c1 l1 c2 l2 = some l') : Calls Tryz.prog 28 #[.agg #[.int .i64 c1, .slice a1 n1 k1], .agg #[.int .i64 c2, .slice a2 n2 k2]] w fun e w' => ∃ a' n' k', e = .returned (.tuple #[.slice a' n' k', .int .i64 0]) ∧ RecsAt w' a' n' l' ∧ n' ≤ k' ∧ Ext w w' :=
 (Behind_c k1 k2 w H1 e1 H2 e2 hRl).mono fun _ _ ⟨a', n', k', er, he, hO, hE⟩ => by
  rw [ho] at hO
  obtain ⟨rfl, h1, h2⟩ := hO.y
  exact ⟨a', n', k', he, h1, h2, hE⟩
theorem Fold_y {w0 : World} {c : Int} {a : Option Addr} {n : Nat} {l : List Rec} {l' : List Rec} (k : Nat) (w : World) (H : RecsAt w0 a n l) (e0 : Ext w0 w) (hRl : RootAt w) (ho : Rep.foldO c l = some l') : Calls Tryz.prog 13 #[.agg #[.int .i64 c, .slice a n k]] w fun e w' => ∃ a' n' k', e = .returned (.tuple #[.slice a' n' k', .int .i64 0]) ∧ RecsAt w' a' n' l' ∧ n' ≤ k' ∧ Ext w w' :=
 (Fold_c k w H e0 hRl).mono fun _ _ ⟨a', n', k', er, he, hO, hE⟩ => by
  rw [ho] at hO
  obtain ⟨rfl, h1, h2⟩ := hO.y
  exact ⟨a', n', k', he, h1, h2, hE⟩
theorem History_y {w0 : World} {c cc nn : Int} {a : Option Addr} {n : Nat} {l : List Rec} {l' : List Rec} (k : Nat) (w : World) (H : RecsAt w0 a n l) (e0 : Ext w0 w) (hRl : RootAt w) (ho : Rep.histO c l (cc, nn) = some l') : Calls Tryz.prog 24 #[.agg #[.int .i64 c, .slice a n k], .int .i64 cc, .int .i64 nn] w fun e w' => ∃ a' n' k', e = .returned (.tuple #[.slice a' n' k', .int .i64 0]) ∧ RecsAt w' a' n' l' ∧ n' ≤ k' ∧ Ext w w' :=
 (History_c k cc nn w H e0 hRl).mono fun _ _ ⟨a', n', k', er, he, hO, hE⟩ => by
  rw [ho] at hO
  obtain ⟨rfl, h1, h2⟩ := hO.y
  exact ⟨a', n', k', he, h1, h2, hE⟩
theorem History_n {w0 : World} {c cc nn : Int} {a : Option Addr} {n : Nat} {l : List Rec} (k : Nat) (w : World) (H : RecsAt w0 a n l) (e0 : Ext w0 w) (hRl : RootAt w) (ho : Rep.histO c l (cc, nn) = none) : Calls Tryz.prog 24 #[.agg #[.int .i64 c, .slice a n k], .int .i64 cc, .int .i64 nn] w fun e w' => e = .returned (.tuple #[.slice none 0 0, .int .i64 350]) ∧ Ext w w' :=
 (History_c k cc nn w H e0 hRl).mono fun _ _ ⟨a', n', k', er, he, hO, hE⟩ => by
  rw [ho] at hO
  obtain ⟨rfl, rfl, rfl, rfl⟩ := hO.n
  exact ⟨he, hE⟩
end Go.Proofs.YtfmoabgjaclkpaaGreatDoor

namespace Go.Proofs.YtfmoabgjaclkpaaGreatDoor
namespace Wire
def byt (y : Nat) : UInt8 := if y < 128 then UInt8.ofNat y else UInt8.ofNat (y % 128 + 128)
def vbF : Nat → Nat → List UInt8
 | 0, z => [byt z]
 | f + 1, z => if z < 128 then [byt z] else byt z :: vbF f (z / 128)
def vb (z : Nat) : List UInt8 := vbF 9 z
theorem vbF_pos : ∀ f z, 0 < (vbF f z).length
 | 0, _ => by simp [vbF]
 | f + 1, z => by unfold vbF; split <;> simp
theorem vbF_at : ∀ (f z : Nat), z < 128 ^ (f + 1) → ∀ i, i < (vbF f z).length → (vbF f z)[i]? = some (byt (z / 128 ^ i)) ∧ (i + 1 < (vbF f z).length ↔ 128 ≤ z / 128 ^ i)
  | 0, z, hz, i, hi => by
    simp [vbF] at hi ⊢; subst hi; simp at hz ⊢; omega
  | f + 1, z, hz, i, hi => by
    unfold vbF at hi ⊢
    by_cases h : z < 128
    · rw [if_pos h] at hi ⊢
      simp at hi; subst hi; simp; omega
    · rw [if_neg h] at hi ⊢
      have h0 := vbF_pos f (z / 128)
      cases i with
      | zero => simp; exact ⟨fun _ => by omega, fun _ => h0⟩
      | succ i =>
        have hz' : z / 128 < 128 ^ (f + 1) := by rw [Nat.div_lt_iff_lt_mul (by decide)]; rw [Nat.pow_succ] at hz; exact hz
        have ih := vbF_at f (z / 128) hz' i (by simpa using hi)
        rw [Nat.div_div_eq_div_mul, show 128 * 128 ^ i = 128 ^ (i + 1) by rw [Nat.pow_succ, Nat.mul_comm]] at ih
        simpa using ih
theorem vb_pos (z : Nat) : 0 < (vb z).length := vbF_pos 9 z
theorem vb_at {z i : Nat} (hz : z < 9223372036854775808) (hi : i < (vb z).length) : (vb z)[i]? = some (byt (z / 128 ^ i)) ∧ (i + 1 < (vb z).length ↔ 128 ≤ z / 128 ^ i) :=
 vbF_at 9 z (Nat.lt_trans hz (by decide)) i hi
theorem vbF_len : ∀ (f z : Nat), (vbF f z).length ≤ f + 1
 | 0, _ => by simp [vbF]
 | f + 1, z => by
  unfold vbF; split
  · simp
  · have := vbF_len f (z / 128); simp; omega
theorem vb_len (z : Nat) : (vb z).length ≤ 10 := vbF_len 9 z
theorem vb_last {z i : Nat} (hz : z < 9223372036854775808) (hi : i < (vb z).length) : i + 1 = (vb z).length ↔ z / 128 ^ i < 128 := by
 have := (vb_at hz hi).2; omega
theorem vb_take {z i : Nat} (hz : z < 9223372036854775808) (hi : i < (vb z).length) : (vb z).take (i + 1) = (vb z).take i ++ [byt (z / 128 ^ i)] := by rw [List.take_add_one, (vb_at hz hi).1]; rfl
theorem vb_small {z i : Nat} (_hz : z < 9223372036854775808) (hi : i < (vb z).length) : i < 10 := Nat.lt_of_lt_of_le hi (vb_len z)
def val : List UInt8 → Nat
 | [] => 0
 | b :: l => b.toNat % 128 + 128 * val l
def Chain : List UInt8 → Prop
 | [] => False
 | [b] => b.toNat < 128
 | b :: c :: l => 128 ≤ b.toNat ∧ Chain (c :: l)
def okLast (l : List UInt8) : Prop := l.length = 1 ∨ (l.getLast?.map UInt8.toNat) ≠ some 0
theorem byt_small {y : Nat} (h : y < 128) : (byt y).toNat = y := by unfold byt; rw [if_pos h]; simp; omega
theorem byt_big {y : Nat} (h : ¬ y < 128) : (byt y).toNat = y % 128 + 128 := by unfold byt; rw [if_neg h]; simp; omega
theorem toNat_inj {a b : UInt8} (h : a.toNat = b.toNat) : a = b := UInt8.toNat_inj.1 h
theorem val_pos : ∀ {l : List UInt8}, Chain l → okLast l → 1 < l.length → 128 ≤ val l
  | [], h, _, _ => h.elim
  | [b], _, _, h => by simp at h
  | [b, c], h, ho, _ => by
    obtain ⟨h1, h2⟩ := h
    have h2 : c.toNat < 128 := h2
    rcases ho with q | q
    · simp at q
    · simp at q
      have : c.toNat ≠ 0 := q
      simp only [val]; omega
  | b :: c :: d :: l, h, ho, _ => by
    have ih := val_pos (l := c :: d :: l) h.2 (by
      rcases ho with q | q
      · simp at q
      · exact .inr (by simpa using q)) (by simp)
    rw [val]; omega
theorem canon : ∀ (f : Nat) {l : List UInt8}, Chain l → okLast l → l.length ≤ f + 1 → vbF f (val l) = l
 | _, [], h, _, _ => h.elim
 | 0, [b], h, _, _ => by
  have h : b.toNat < 128 := h
  have e : val [b] = b.toNat := by simp [val]; omega
  rw [e, vbF]; exact congrArg (· :: []) (toNat_inj (byt_small h))
 | f + 1, [b], h, _, _ => by
  have h : b.toNat < 128 := h
  have e : val [b] = b.toNat := by simp [val]; omega
  rw [e, vbF, if_pos h]; exact congrArg (· :: []) (toNat_inj (byt_small h))
 | 0, b :: c :: l, _, _, hl => by simp at hl
 | f + 1, b :: c :: l, h, ho, hl => by
  have hb := b.toNat_lt
  have h1 := h.1
  have hv := val_pos h ho (by simp)
  have e : val (b :: c :: l) = b.toNat % 128 + 128 * val (c :: l) := rfl
  have ho' : okLast (c :: l) := by
   rcases ho with q | q
   · simp at q
   · exact .inr (by simpa using q)
  rw [vbF, if_neg (by omega)]
  have e1 : byt (val (b :: c :: l)) = b := toNat_inj (by rw [byt_big (by omega), e]; omega)
  have e2 : val (b :: c :: l) / 128 = val (c :: l) := by rw [e]; omega
  rw [e1, e2, canon f h.2 ho' (by simpa using hl)]
theorem vbF_chain : ∀ (f z : Nat), z < 128 ^ (f + 1) → Chain (vbF f z) ∧ val (vbF f z) = z ∧ okLast (vbF f z)
  | 0, z, hz => by
    have hz : z < 128 := by simpa using hz
    unfold vbF
    exact ⟨(by show (byt z).toNat < 128; rw [byt_small hz]; exact hz), (by simp [val, byt_small hz]; omega), .inl rfl⟩
  | f + 1, z, hz => by
    unfold vbF
    by_cases h : z < 128
    · rw [if_pos h]
      exact ⟨(by show (byt z).toNat < 128; rw [byt_small h]; exact h), (by simp [val, byt_small h]; omega), .inl rfl⟩
    · rw [if_neg h]
      have hz' : z / 128 < 128 ^ (f + 1) := by rw [Nat.div_lt_iff_lt_mul (by decide)]; rw [Nat.pow_succ] at hz; exact hz
      obtain ⟨i1, i2, i3⟩ := vbF_chain f (z / 128) hz'
      refine ⟨?_, ?_, .inr ?_⟩
      · have h0 := vbF_pos f (z / 128)
        cases hq : vbF f (z / 128) with
        | nil => rw [hq] at h0; simp at h0
        | cons c l => rw [hq] at i1; exact ⟨by rw [byt_big h]; omega, i1⟩
      · rw [val, i2, byt_big h]; omega
      · have h0 := vbF_pos f (z / 128)
        rw [List.getLast?_cons_of_ne_nil (List.ne_nil_of_length_pos h0)]
        rcases i3 with q | q
        · cases hq : vbF f (z / 128) with
          | nil => rw [hq] at h0; simp at h0
          | cons c l =>
            rw [hq] at q i2; simp at q; subst q
            have hc : c.toNat % 128 + 128 * 0 = z / 128 := i2
            simp
            intro e
            have e : c.toNat = 0 := by rw [e]
            omega
        · exact q
def zz (n : Int) : Nat := if n < 0 then (2 * (-n) - 1).toNat else (2 * n).toNat
def uz (z : Nat) : Int := if z % 2 = 1 then -((z / 2 : Nat) : Int) - 1 else ((z / 2 : Nat) : Int)
theorem zz_uz (z : Nat) : zz (uz z) = z := by unfold zz uz; split <;> split <;> omega
theorem uz_zz (n : Int) : uz (zz n) = n := by unfold zz uz; split <;> split <;> omega
def fits (n : Int) : Prop := -4611686018427387903 ≤ n ∧ n ≤ 4611686018427387903
theorem fits_zz {n : Int} (h : fits n) : zz n < 9223372036854775807 := by unfold fits at h; unfold zz; split <;> omega
theorem fits_uz {z : Nat} (h : z < 9223372036854775807) : fits (uz z) := by unfold fits uz; split <;> omega
def encI (n : Int) : ByteArray := ⟨(vb (zz n)).toArray⟩
def bytes (s : ByteArray) : List UInt8 := s.data.toList
theorem bytes_len (s : ByteArray) : (bytes s).length = s.size := by unfold bytes; simp
theorem bytes_encI (n : Int) : bytes (encI n) = vb (zz n) := rfl
theorem bytes_eq {a b : ByteArray} (h : bytes a = bytes b) : a = b := by
 cases a; cases b; unfold bytes at h; simp at h; rw [h]
theorem bytes_app (a b : ByteArray) : bytes (a ++ b) = bytes a ++ bytes b := by unfold bytes; simp
theorem bytes_ext (s : ByteArray) (i j : Nat) : bytes (s.extract i j) = (bytes s).extract i j := by unfold bytes; simp
def scan (s : List UInt8) (a : Nat) : Nat → Nat → Nat → Option (Nat × Nat)
 | 0, _, _ => none
 | k + 1, i, z => match s[a + i]? with
  | none => none
  | some b => if b.toNat < 128 then (if b.toNat = 0 ∧ 0 < i then none else some (z + b.toNat % 128 * 128 ^ i, i)) else scan s a k (i + 1) (z + b.toNat % 128 * 128 ^ i)
def rdI (s : List UInt8) (a : Nat) : Option (Int × Nat) := match scan s a 9 0 0 with
 | none => none
 | some (z, i) => if z < 9223372036854775807 then some (uz z, a + i + 1) else none
theorem scan_is {s : List UInt8} {a : Nat} : ∀ (k i z : Nat) {z' j : Nat}, scan s a k i z = some (z', j) → i ≤ j ∧ j < i + k ∧ a + j < s.length ∧ Chain (s.extract (a + i) (a + j + 1)) ∧ z' = z + 128 ^ i * val (s.extract (a + i) (a + j + 1)) ∧ (j = 0 ∨ ∃ b, s[a + j]? = some b ∧ b.toNat ≠ 0)
  | 0, _, _, _, _, h => by cases h
  | k + 1, i, z, z', j, h => by
    unfold scan at h
    cases hb : s[a + i]? with
    | none => rw [hb] at h; cases h
    | some b =>
      rw [hb] at h
      have hi := (List.getElem?_eq_some_iff.1 hb).1
      have hcons : ∀ m, a + i < m → s.extract (a + i) m = b :: s.extract (a + i + 1) m := fun m hm => by
        obtain ⟨_, e⟩ := List.getElem?_eq_some_iff.1 hb
        rw [List.extract_eq_take_drop, List.drop_eq_getElem_cons hi, e, show m - (a + i) = (m - (a + i + 1)) + 1 by omega, List.take_succ_cons, List.extract_eq_take_drop]
      dsimp only at h
      by_cases h1 : b.toNat < 128
      · rw [if_pos h1] at h
        by_cases h2 : b.toNat = 0 ∧ 0 < i
        · rw [if_pos h2] at h; cases h
        · rw [if_neg h2] at h
          injection h with h; injection h with h3 h4
          subst h3 h4
          have e : s.extract (a + i) (a + i + 1) = [b] := by rw [hcons _ (by omega), List.extract_eq_take_drop]; simp
          refine ⟨Nat.le_refl _, by omega, hi, by rw [e]; exact h1, by rw [e]; simp [val, Nat.mul_comm], ?_⟩
          by_cases h0 : i = 0
          · exact .inl h0
          · exact .inr ⟨b, hb, by omega⟩
      · rw [if_neg h1] at h
        obtain ⟨g1, g2, g3, g4, g5, g6⟩ := scan_is k (i + 1) _ h
        rw [show a + (i + 1) = a + i + 1 by omega] at g4 g5
        have e := hcons (a + j + 1) (by omega)
        refine ⟨by omega, by omega, g3, ?_, ?_, g6⟩
        · rw [e]
          cases hq : s.extract (a + i + 1) (a + j + 1) with
          | nil => rw [hq] at g4; exact g4.elim
          | cons c l => rw [hq] at g4; exact ⟨by omega, g4⟩
        · rw [e, g5, val, Nat.pow_succ, Nat.mul_add, Nat.mul_comm (b.toNat % 128), Nat.mul_assoc, Nat.add_assoc]
theorem ext_len (s : List UInt8) (i j : Nat) (h : j ≤ s.length) : (s.extract i j).length = j - i := by rw [List.extract_eq_take_drop]; simp; omega
theorem ext_get {s : List UInt8} {i j q : Nat} (h : q < j - i) : (s.extract i j)[q]? = s[i + q]? := by
 rw [List.extract_eq_take_drop, List.getElem?_take, if_pos h, List.getElem?_drop]
theorem rdI_is {s : List UInt8} {a : Nat} {n : Int} {nx : Nat} (h : rdI s a = some (n, nx)) : a < nx ∧ nx ≤ s.length ∧ s.extract a nx = vb (zz n) ∧ fits n := by
  unfold rdI at h
  cases hs : scan s a 9 0 0 with
  | none => rw [hs] at h; cases h
  | some p =>
    obtain ⟨z, i⟩ := p
    rw [hs] at h
    by_cases hz : z < 9223372036854775807
    · simp only [if_pos hz] at h
      injection h with h; injection h with h1 h2
      subst h1 h2
      obtain ⟨g1, g2, g3, g4, g5, g6⟩ := scan_is 9 0 0 hs
      rw [Nat.pow_zero, Nat.one_mul, Nat.zero_add, Nat.add_zero] at g5
      rw [Nat.add_zero] at g4
      refine ⟨by omega, by omega, ?_, fits_uz hz⟩
      rw [zz_uz, g5]
      refine (canon 9 g4 ?_ (by rw [ext_len _ _ _ (by omega)]; omega)).symm
      rcases g6 with g6 | ⟨b, g6, g7⟩
      · exact .inl (by rw [ext_len _ _ _ (by omega)]; omega)
      · refine .inr ?_
        rw [List.getLast?_eq_getElem?, ext_len _ _ _ (by omega), ext_get (by omega), show a + (a + i + 1 - a - 1) = a + i by omega, g6]
        simpa using g7
    · simp only [if_neg hz] at h; cases h
theorem scan_go {s : List UInt8} {a : Nat} : ∀ (l : List UInt8) (k i z : Nat), Chain l → l.length ≤ k → (okLast l ∨ (i ≠ 0 ∧ (l.getLast?.map UInt8.toNat) ≠ some 0)) → (l.length = 1 → i ≠ 0 → (l.getLast?.map UInt8.toNat) ≠ some 0) → (∀ q, q < l.length → s[a + i + q]? = l[q]?) → scan s a k i z = some (z + 128 ^ i * val l, i + l.length - 1)
  | [], _, _, _, h, _, _, _, _ => h.elim
  | [b], k, i, z, h, hk, ho, ho2, hs => by
    obtain ⟨k, rfl⟩ : ∃ q, k = q + 1 := ⟨k - 1, by simp at hk; omega⟩
    have h : b.toNat < 128 := h
    unfold scan
    rw [show s[a + i]? = some b from hs 0 (by simp)]
    dsimp only
    rw [if_pos h, if_neg (fun q => ho2 rfl (by omega) (by simp [q.1]))]
    simp [val, Nat.mul_comm]
  | b :: c :: l, k, i, z, h, hk, ho, ho2, hs => by
    obtain ⟨k, rfl⟩ : ∃ q, k = q + 1 := ⟨k - 1, by simp at hk; omega⟩
    have h1 := h.1
    unfold scan
    rw [show s[a + i]? = some b from hs 0 (by simp)]
    dsimp only
    rw [if_neg (by omega)]
    have hl : ((b :: c :: l).getLast?.map UInt8.toNat) ≠ some 0 := by
      rcases ho with q | q
      · rcases q with q | q
        · simp at q
        · exact q
      · exact q.2
    have hl' : ((c :: l).getLast?.map UInt8.toNat) ≠ some 0 := by simpa using hl
    rw [scan_go (c :: l) k (i + 1) _ h.2 (by simpa using hk) (.inr ⟨by omega, hl'⟩) (fun _ _ => hl') fun q hq => by
      have := hs (q + 1) (by simpa using hq)
      rw [show a + (i + 1) + q = a + i + (q + 1) by omega, this]; simp]
    rw [show val (b :: c :: l) = b.toNat % 128 + 128 * val (c :: l) from rfl, Nat.pow_succ, Nat.mul_add, Nat.mul_comm (b.toNat % 128), Nat.mul_assoc, Nat.add_assoc]
    congr 2
    simp; omega
theorem rdI_enc {s : List UInt8} {a : Nat} {n : Int} (hn : fits n) (h : ∀ q, q < (vb (zz n)).length → s[a + q]? = (vb (zz n))[q]?) : rdI s a = some (n, a + (vb (zz n)).length) := by
 have hz := fits_zz hn
 obtain ⟨c1, c2, c3⟩ := vbF_chain 9 (zz n) (Nat.lt_trans hz (by decide))
 have hl9 : (vb (zz n)).length ≤ 9 := Nat.le_of_not_lt fun q => by
  have hq : (vb (zz n)).length = 10 := by have := vb_len (zz n); omega
  have := (vb_at (z := zz n) (i := 8) (by omega) (by omega)).2.1 (by omega)
  have h9 := (vb_at (z := zz n) (i := 8) (by omega) (by omega)).2
  have : zz n / 128 ^ 8 < 128 := by rw [Nat.div_lt_iff_lt_mul (by decide)]; exact Nat.lt_of_lt_of_le hz (by decide)
  omega
 have hpos := vb_pos (zz n)
 have hs := scan_go (s := s) (a := a) (vb (zz n)) 9 0 0 c1 hl9 (.inl c3) (fun _ q => absurd rfl q) (fun q hq => by rw [Nat.add_zero]; exact h q hq)
 rw [Nat.pow_zero, Nat.one_mul, Nat.zero_add, Nat.zero_add, show val (vb (zz n)) = zz n from c2] at hs
 unfold rdI
 rw [hs]
 simp only [if_pos hz, uz_zz]
 congr 2
 omega
end Wire
end Go.Proofs.YtfmoabgjaclkpaaGreatDoor

namespace Go.Proofs.YtfmoabgjaclkpaaGreatDoor
open Go.RowKit
theorem wrap_u64n {a : Nat} (h : a < 18446744073709551616) : IntKind.u64.wrap (a : Int) = a := by rw [IntKind.wrap_u64]; omega
theorem wrap_u8n {a : Nat} (h : a < 256) : IntKind.u8.wrap (a : Int) = a := by rw [IntKind.wrap_u8]; omega
theorem ofI {n : Nat} {a : Nat} (h : a < 2 ^ n) : (BitVec.ofInt n (a : Int)).toNat = a := by
 rw [BitVec.toNat_ofInt]
 have : (a : Int) % ((2 ^ n : Nat) : Int) = ((a % 2 ^ n : Nat) : Int) := rfl
 rw [this, Nat.mod_eq_of_lt h]; rfl
section
variable {P : Program} {w : World} {t : TypeId}
theorem and_64 {a b c : Nat} (ha : a < 18446744073709551616) (hb : b < 18446744073709551616) (h : a &&& b = c) : (binOp .and t (.int .u64 (a : Int)) (.int .u64 (b : Int))).run P w = .ok (.int .u64 (c : Int)) w := by
 have e : (BitVec.ofInt IntKind.u64.bits (a : Int) &&& BitVec.ofInt IntKind.u64.bits (b : Int)).toNat = c := by rw [BitVec.toNat_and, ofI ha, ofI hb, h]
 have hc : c < 18446744073709551616 := by rw [← h]; exact Nat.lt_of_le_of_lt Nat.and_le_left ha
 simp only [binOp, Op.intBits, e, wrap_u64n hc]; rfl
theorem or_64 {a b c : Nat} (ha : a < 18446744073709551616) (hb : b < 18446744073709551616) (h : a ||| b = c) : (binOp .or t (.int .u64 (a : Int)) (.int .u64 (b : Int))).run P w = .ok (.int .u64 (c : Int)) w := by
 have e : (BitVec.ofInt IntKind.u64.bits (a : Int) ||| BitVec.ofInt IntKind.u64.bits (b : Int)).toNat = c := by rw [BitVec.toNat_or, ofI ha, ofI hb, h]
 have hc : c < 18446744073709551616 := by rw [← h]; exact Nat.or_lt_two_pow (n := 64) ha hb
 simp only [binOp, Op.intBits, e, wrap_u64n hc]; rfl
theorem xor_64 {a b c : Nat} (ha : a < 18446744073709551616) (hb : b < 18446744073709551616) (h : a ^^^ b = c) : (binOp .xor t (.int .u64 (a : Int)) (.int .u64 (b : Int))).run P w = .ok (.int .u64 (c : Int)) w := by
 have e : (BitVec.ofInt IntKind.u64.bits (a : Int) ^^^ BitVec.ofInt IntKind.u64.bits (b : Int)).toNat = c := by rw [BitVec.toNat_xor, ofI ha, ofI hb, h]
 have hc : c < 18446744073709551616 := by rw [← h]; exact Nat.xor_lt_two_pow (n := 64) ha hb
 simp only [binOp, Op.intBits, e, wrap_u64n hc]; rfl
theorem and_8 {a b c : Nat} (ha : a < 256) (hb : b < 256) (h : a &&& b = c) : (binOp .and t (.int .u8 (a : Int)) (.int .u8 (b : Int))).run P w = .ok (.int .u8 (c : Int)) w := by
 have e : (BitVec.ofInt IntKind.u8.bits (a : Int) &&& BitVec.ofInt IntKind.u8.bits (b : Int)).toNat = c := by rw [BitVec.toNat_and, ofI ha, ofI hb, h]
 have hc : c < 256 := by rw [← h]; exact Nat.lt_of_le_of_lt Nat.and_le_left ha
 simp only [binOp, Op.intBits, e, wrap_u8n hc]; rfl
theorem or_8 {a b c : Nat} (ha : a < 256) (hb : b < 256) (h : a ||| b = c) : (binOp .or t (.int .u8 (a : Int)) (.int .u8 (b : Int))).run P w = .ok (.int .u8 (c : Int)) w := by
 have e : (BitVec.ofInt IntKind.u8.bits (a : Int) ||| BitVec.ofInt IntKind.u8.bits (b : Int)).toNat = c := by rw [BitVec.toNat_or, ofI ha, ofI hb, h]
 have hc : c < 256 := by rw [← h]; exact Nat.or_lt_two_pow (n := 8) ha hb
 simp only [binOp, Op.intBits, e, wrap_u8n hc]; rfl
theorem and_127 (a : Nat) : a &&& 127 = a % 128 := Nat.and_two_pow_sub_one_eq_mod a 7
theorem and_1 (a : Nat) : a &&& 1 = a % 2 := Nat.and_two_pow_sub_one_eq_mod a 1
theorem or_128 {a : Nat} (h : a < 128) : a ||| 128 = a + 128 := by
 have := Nat.two_pow_add_eq_or_of_lt (i := 7) (show a < 2 ^ 7 from h) 1
 rw [Nat.or_comm, ← this]; omega
theorem or_shift {a b i : Nat} (h : a < 2 ^ i) : a ||| b * 2 ^ i = a + b * 2 ^ i := by
 have := Nat.two_pow_add_eq_or_of_lt h b
 rw [Nat.or_comm, Nat.mul_comm b, ← this]; omega
theorem shl_64 {S n c : Nat} {q : IntKind} (hn : n ≤ 64) (h : S * 2 ^ n = c) (hc : c < 18446744073709551616) : (binOp .shl t (.int .u64 (S : Int)) (.int q (n : Int))).run P w = .ok (.int .u64 (c : Int)) w := by
 have e : (S : Int) * 2 ^ n = ((c : Nat) : Int) := by rw [← h]; simp
 simp only [binOp, Op.shift, IntKind.bits, if_neg (show ¬ ((n : Int) < 0) by omega), show min (n : Int).toNat 64 = n by omega, e, wrap_u64n hc]; rfl
theorem shr_64 {S n : Nat} {q : IntKind} (hn : n ≤ 64) : (binOp .shr t (.int .u64 (S : Int)) (.int q (n : Int))).run P w = .ok (.int .u64 ((S / 2 ^ n : Nat) : Int)) w := by
 have e : (S : Int).fdiv (2 ^ n) = ((S / 2 ^ n : Nat) : Int) := by rw [Int.fdiv_eq_ediv_of_nonneg _ (by have : (0 : Int) < 2 ^ n := Int.pow_pos (by decide); omega)]; simp
 simp only [binOp, Op.shift, IntKind.bits, if_neg (show ¬ ((n : Int) < 0) by omega), show min (n : Int).toNat 64 = n by omega, e]; rfl
theorem shr_sign {n : Int} {q : IntKind} (h0 : 0 ≤ n) (h1 : n < 9223372036854775808) : (binOp .shr t (.int .i64 n) (.int q 63)).run P w = .ok (.int .i64 0) w := by
 have e : n.fdiv (2 ^ 63) = 0 := by rw [Int.fdiv_eq_ediv_of_nonneg _ (by decide)]; omega
 simp only [binOp, Op.shift, IntKind.bits, if_neg (show ¬ ((63 : Int) < 0) by decide), show min (63 : Int).toNat 64 = 63 by decide, e]; rfl
theorem xor_sign {z : Nat} (hz : z < 9223372036854775808) : (binOp .xor t (.int .i64 ((z / 2 : Nat) : Int)) (.int .i64 (-((z % 2 : Nat) : Int)))).run P w = .ok (.int .i64 (Wire.uz z)) w := by
  have ha : z / 2 < 2 ^ 64 := Nat.lt_trans (show z / 2 < 9223372036854775808 by omega) (by decide)
  rcases Nat.mod_two_eq_zero_or_one z with q | q
  · have e : (BitVec.ofInt IntKind.i64.bits ((z / 2 : Nat) : Int) ^^^ BitVec.ofInt IntKind.i64.bits (-((z % 2 : Nat) : Int))).toNat = z / 2 := by
      show (BitVec.ofInt 64 ((z / 2 : Nat) : Int) ^^^ BitVec.ofInt 64 (-((z % 2 : Nat) : Int))).toNat = z / 2
      rw [q, BitVec.toNat_xor, ofI ha]; simp
    simp only [binOp, Op.intBits, e]
    rw [show IntKind.i64.wrap ((z / 2 : Nat) : Int) = Wire.uz z by unfold Wire.uz; rw [if_neg (by omega), IntKind.wrap_i64]; omega]; rfl
  · have e : (BitVec.ofInt IntKind.i64.bits ((z / 2 : Nat) : Int) ^^^ BitVec.ofInt IntKind.i64.bits (-((z % 2 : Nat) : Int))).toNat = 18446744073709551615 - z / 2 := by
      show (BitVec.ofInt 64 ((z / 2 : Nat) : Int) ^^^ BitVec.ofInt 64 (-((z % 2 : Nat) : Int))).toNat = 18446744073709551615 - z / 2
      rw [q, show -((1 : Nat) : Int) = -1 by rfl, show BitVec.ofInt 64 (-1) = BitVec.allOnes 64 by decide, BitVec.xor_allOnes, BitVec.toNat_not, ofI ha]
    simp only [binOp, Op.intBits, e]
    rw [show IntKind.i64.wrap ((18446744073709551615 - z / 2 : Nat) : Int) = Wire.uz z by unfold Wire.uz; rw [if_pos q, IntKind.wrap_i64]; omega]; rfl
end
def byteR : Rep UInt8 where
 rel _ c x F := c = [.int .u8 (x.toNat : Int)] ∧ F = []
 keep := fun h _ => h
 lt := by rintro w c x F ⟨_, rfl⟩ b hb; cases hb
theorem byteT : ElemT Tryz.prog 63 5 (.int .u8 0) 1 1 := ⟨Tryz.underlying63, by kernel_rfl, rfl, by decide⟩
set_option maxRecDepth 100000 in
theorem own_str {n₀ e n c : Nat} {a : Option Addr} {w : World} {l : List UInt8} (h : OwnL byteR n₀ e 1 (.slice a n c) w l) (hl : l.length = n) : (convert 63 9 (.slice a n c)).run Tryz.prog w = .ok (.string ⟨l.toArray⟩) w := by
  obtain ⟨cs, h1, h2, h3, h4⟩ := h
  rcases h3.2 with ⟨q, z⟩ | ⟨g, cap, cur, q, _⟩
  · injection q with q1 q2 q3
    obtain rfl := List.eq_nil_of_length_eq_zero (show l.length = 0 by omega)
    rw [q1]
    exact run_convert_bytes_nil w 63 5 Tryz.underlying63 Tryz.underlying5 _ _ _ Tryz.underlying9
  · injection q with q1 q2 q3
    subst q1 hl q3
    refine run_convert_bytes_back w 63 9 5 ⟨g, 0, none⟩ c l Tryz.underlying63 Tryz.underlying5 Tryz.underlying9 fun j hj => ?_
    rw [Addr.add_mid, Nat.zero_add]
    have hc := List.getElem?_eq_getElem (l := cs) (i := j) (by omega)
    obtain ⟨F, ⟨e1, _⟩, _⟩ := h4 j _ _ (List.getElem?_eq_getElem hj) hc
    have f := flatten_get h2 j hc 0 (by omega)
    rw [e1, Nat.mul_one, Nat.add_zero] at f
    have hz := h3.cellAt j (by omega)
    rw [hz]; exact f
theorem ex_conv {P : Program} {ev : Operand → Value} {o : Oper} {w X : World} {s d : TypeId} {x : Operand} {a v : Value} (hop : o.op = .convert s d x) (hx : ev x = a) (h : (convert s d a).run P w = .ok v X) : (execOp ev o).run P w = .ok (.value v) X := by
 simp [execOp, hop, hx, h, Result.andThen]
theorem Turns.nc {O : Nat} {w X : World} (t : Turns O w X) {k : Nat} {o : Obj} (h : w.heap[k]? = some o) (hc : o.isCells = false) : X.heap[k]? = some o := by
 by_cases e : k = O
 · subst e; exact t.oth' o h hc
 · rw [t.heap' k e]; exact h
def SeqT (P : Program) (g : Nat) (lb : Array Value) (N : Nat) (encs : Nat → List Value) (Φ : Nat → World → Prop) (X : Nat → Prop) (B : Nat) (w : World) : Prop :=
 ∀ (l : Nat) (J Jx : Nat → World → Prop) (W : World), Ext w W → (∀ i A B, J i A → Ext A B → J i B) → (∀ i A B, Jx i A → Ext A B → Jx i B) → (∀ i A C, J i A → Turns B A C → J i C) → (∀ i A C, Jx i A → Turns B A C → Jx i C) →
  (∀ i W1 m, i < N → J i W1 → Φ i W1 → YieldAt Fence.wide m P l (encs i).toArray W1 fun e W' => (e = .returned (.bool true) ∧ J (i + 1) W' ∧ KeptX X W1 W') ∨ (e = .returned (.bool false) ∧ Jx i W' ∧ KeptX X W1 W')) →
  J 0 W → ∀ n, CallsIn Fence.wide n P g (#[.func (.yield l) #[] #[]] ++ lb) W fun e W' => (∃ v, e = .returned v) ∧ (J N W' ∨ ∃ i, i < N ∧ Jx i W')
section
variable {P : Program} {n : Nat} {L : List Value} {ws : List (Nat × Value)} {w : World} {Q : Exit → Act → World → Prop} {r : Option Nat} {m : Nat} {Ds : List Nat}
theorem icw_rangeT {g : Operand} {ps : List Nat} {assign body : Code} {gf : Nat} {lb : Array Value} (hg : evalW L ws g = .func (.func gf) #[] lb) (eg : ∀ args w, (callFunc gf args).run P w = .ok (.enter gf args) w)
    {N : Nat} {encs : Nat → List Value} {Φ : Nat → World → Prop} {X : Nat → Prop} {w0 : World} {TB : Nat} (hseq : SeqT P gf lb N encs Φ X TB w0) (hb0 : Ext w0 w) (hps : ∀ i, (encs i).length = ps.length) (hpn : ps.all (fun p => Nat.blt p n) = true)
    (Inv : Nat → World → Prop) (Ix : Code → Nat → World → Prop) (hI : ∀ i A B, Inv i A → Mv w.heap.size A B → Inv i B) (hIx : ∀ c i A B, Ix c i A → Mv w.heap.size A B → Ix c i B) (hT : ∀ i A B, Inv i A → Turns TB A B → Inv i B) (hTx : ∀ c i A B, Ix c i A → Turns TB A B → Ix c i B) (h0 : Inv 0 w)
    (round : ∀ l k i W, i < N → Inv i W → Φ i W → ICW P (some l) k [] assign (AsgQ P l k w.heap.size X body Inv Ix i W) n L (zipW ps (encs i) ws) W)
    (done : ∀ D W, w.heap.size ≤ D → D < W.heap.size → Inv N W → W.heap[D]? = some (.deferred (some [])) → IQW (D :: Ds) Q .normal n L ws W)
    (stop : ∀ c D i W, w.heap.size ≤ D → D < W.heap.size → i < N → Ix c i W → W.heap[D]? = some (.deferred (some [])) → ICW P none m (D :: Ds) c Q n L ws W) :
    ICW P none m Ds (.rangeFunc g ps.toArray assign body) Q n L ws w := ⟨fun b => by
  have hgv : Act.eval ⟨(setAll L ws).toArray, marks Ds⟩ g = .func (.func gf) #[] lb := by rw [eval_W b.lt]; exact hg
  show (Code.rangeFunc g ps.toArray assign body).wpIn Fence.wide m P Q ⟨(setAll L ws).toArray, marks Ds⟩ w
  refine wpIn_rangeFunc fun fn hfn => ?_
  let R := recOf ⟨(setAll L ws).toArray, marks Ds⟩ ps.toArray assign body fn w.heap.size
  let W1 := (w.alloc (.deferred (some []))).alloc (.loop (R .ready none))
  have sz : W1.heap.size = w.heap.size + 2 := by simp [W1]
  have hL1 : W1.heap[w.heap.size + 1]? = some (.loop (R .ready none)) := by
    have := World.alloc_heap_new (w.alloc (.deferred (some []))) (.loop (R .ready none))
    rwa [World.size_alloc] at this
  have Bc : W1.heap[w.heap.size]? = some (.deferred (some [])) := (Below.heap_alloc _ _ _ (by simp)).trans (World.alloc_heap_new w _)
  have B8 : Ext w W1 := ((Ext.refl w).alloc _).alloc _
  refine ⟨w.heap.size + 1, [{ target := .collected w.heap.size, args := #[] }], W1, { target := .fn (.func gf) lb, args := #[.func (.yield (w.heap.size + 1)) #[] #[]] }, W1, gf, #[.func (.yield (w.heap.size + 1)) #[] #[]] ++ lb, W1,
    run_enterLoop_outer _ _ _ _ _, ?_, fun _ _ => trivial, by simp [invoke, go_sem, eg], fun h => by simp [Fence.wide] at h, ?_⟩
  · have hgv' : Act.eval ⟨(setAll L ws).toArray, marks Ds⟩ g = .func (.func gf) #[] lb := hgv
    simp only [resolve, hgv']; simp [go_sem]
  refine (hseq (w.heap.size + 1)
    (fun i W => Inv i W ∧ W.heap[w.heap.size + 1]? = some (.loop (R .ready none)) ∧ W.heap[w.heap.size]? = some (.deferred (some [])))
    (fun i W => ∃ c, Ix c i W ∧ W.heap[w.heap.size + 1]? = some (.loop (R .done (some c))) ∧ W.heap[w.heap.size]? = some (.deferred (some [])))
    W1 (hb0.trans B8)
    (fun i A B hs e => ⟨hI i A B hs.1 (Mv.of_ext e), (e.block _ (Array.getElem?_eq_some_iff.1 hs.2.1).1).trans hs.2.1, (e.block _ (Array.getElem?_eq_some_iff.1 hs.2.2).1).trans hs.2.2⟩)
    (fun i A B ⟨c, h1, h2, h3⟩ e => ⟨c, hIx c i A B h1 (Mv.of_ext e), (e.block _ (Array.getElem?_eq_some_iff.1 h2).1).trans h2, (e.block _ (Array.getElem?_eq_some_iff.1 h3).1).trans h3⟩)
    (fun i A B hs t => ⟨hT i A B hs.1 t, t.nc hs.2.1 rfl, t.nc hs.2.2 rfl⟩)
    (fun i A B ⟨c, h1, h2, h3⟩ t => ⟨c, hTx c i A B h1 t, t.nc h2 rfl, t.nc h3 rfl⟩)
    ?_ ⟨hI 0 w W1 h0 (Mv.of_ext B8), hL1, Bc⟩ _).mono ?_
  · rintro i W k hi ⟨hInv, hl, hk⟩ hx
    have hlt := (Array.getElem?_eq_some_iff.1 hl).1
    have hsz : (encs i).toArray.size = ps.toArray.size := by simp [hps i]
    refine ⟨fn, _, assign, body, run_yield (P := P) (args := (encs i).toArray) hl hsz, roundIn_of_wpIn (F := Fence.wide) hfn ?_⟩
    have hround := (round (w.heap.size + 1) k i W hi hInv hx).out (zip_bd b hpn)
    have e0 : (⟨(setAll L (zipW ps (encs i) ws)).toArray, marks []⟩ : Act) = { tmps := (ps.toArray.zip (encs i).toArray).foldl (fun t (p, v) => t.setIfInBounds p v) (setAll L ws).toArray, defers := [] } := by rw [zip_set]; rfl
    rw [e0] at hround
    refine Go.wpIn_mono hround fun e a1 w1 hp => ?_
    cases e with
    | normal =>
      obtain ⟨B3, hbody⟩ := hp
      have B4 := B3.oth.same _ _ (by omega) hl rfl
      have hkk := B3.oth.same _ _ (Nat.le_refl _) hk rfl
      have B7 := (Array.getElem?_eq_some_iff.1 B4).1
      refine ⟨_, run_beginRound B4 rfl, ?_⟩
      let W2 := w1.putObj (w.heap.size + 1) (.loop (R .busy none))
      have Ba : Mv w.heap.size w1 W2 := Mv.putObj _ (by omega) B4 rfl
      have Bf : W2.heap[w.heap.size + 1]? = some (.loop (R .busy none)) := World.putObj_heap_same B7
      have Be : W2.heap[w.heap.size]? = some (.deferred (some [])) := (World.putObj_heap_other (by omega)).trans hkk
      have leave : ∀ (jump : Option Code) (W3 : World), RK w.heap.size X W2 W3 →
          W3.heap[w.heap.size + 1]? = some (.loop (R .busy none)) ∧
          (Instr.endRound (w.heap.size + 1) jump).run P W3 = .ok (.bool jump.isNone) (W3.putObj (w.heap.size + 1) (.loop (R (if jump.isNone then .ready else .done) jump))) ∧
          (W3.putObj (w.heap.size + 1) (.loop (R (if jump.isNone then .ready else .done) jump))).heap[w.heap.size + 1]? = some (.loop (R (if jump.isNone then .ready else .done) jump)) ∧
          (W3.putObj (w.heap.size + 1) (.loop (R (if jump.isNone then .ready else .done) jump))).heap[w.heap.size]? = some (.deferred (some [])) ∧
          Mv w.heap.size W3 (W3.putObj (w.heap.size + 1) (.loop (R (if jump.isNone then .ready else .done) jump))) ∧ KeptX X W (W3.putObj (w.heap.size + 1) (.loop (R (if jump.isNone then .ready else .done) jump))) := fun jump W3 h3 => by
        have B0 := h3.oth.same _ _ (by omega) Bf rfl
        have Bb : Mv w.heap.size W3 (W3.putObj (w.heap.size + 1) (.loop (R (if jump.isNone then .ready else .done) jump))) := Mv.putObj _ (by omega) B0 rfl
        exact ⟨B0, run_endRound (P := P) jump B0, World.putObj_heap_same (Array.getElem?_eq_some_iff.1 B0).1, (World.putObj_heap_other (by omega)).trans (h3.oth.same _ _ (Nat.le_refl _) Be rfl), Bb, ((B3.kept.trans (KeptX.of_mv Ba)).trans h3.kept).trans (KeptX.of_mv Bb)⟩
      refine Go.wpIn_mono (hbody W2 Ba) fun e a3 W3 hp => ?_
      cases e with
      | normal =>
        obtain ⟨h3, B2⟩ := hp
        obtain ⟨B0, hr, q1, q2, q3, q4⟩ := leave none W3 h3
        exact ⟨_, _, hr, .inl ⟨rfl, ⟨hI _ _ _ B2 q3, q1, q2⟩, q4⟩⟩
      | ret =>
        obtain ⟨h3, B2⟩ := hp
        obtain ⟨B0, hr, q1, q2, q3, q4⟩ := leave (some .ret) W3 h3
        exact ⟨_, _, hr, .inr ⟨rfl, ⟨_, hIx _ _ _ _ B2 q3, q1, q2⟩, q4⟩⟩
      | exit id =>
        obtain ⟨h3, B2⟩ := hp
        obtain ⟨B0, hr, q1, q2, q3, q4⟩ := leave (some (.exit id)) W3 h3
        exact ⟨_, _, hr, .inr ⟨rfl, ⟨_, hIx _ _ _ _ B2 q3, q1, q2⟩, q4⟩⟩
      | goto _ => exact hp.elim
      | panic _ => exact hp.elim
      | outgrown => exact hp.elim
    | exit _ => exact hp.elim
    | ret => exact hp.elim
    | goto _ => exact hp.elim
    | panic _ => exact hp.elim
    | outgrown => exact hp.elim
  · rintro e W2 ⟨⟨v, rfl⟩, (⟨hi, hl, hk⟩ | ⟨i, hiN, c, hi, hl, hk⟩)⟩
    · exact ⟨none, _, run_endLoop (P := P) hl (by simp [R, recOf]), (done w.heap.size _ (Nat.le_refl _) (by have := (Array.getElem?_eq_some_iff.1 hk).1; simpa using this) (hI _ _ _ hi (Mv.putObj _ (by omega) hl rfl)) ((World.putObj_heap_other (by omega)).trans hk)).out b⟩
    · exact ⟨some c, _, run_endLoop (P := P) hl (by simp [R, recOf]), (stop c w.heap.size i _ (Nat.le_refl _) (by have := (Array.getElem?_eq_some_iff.1 hk).1; simpa using this) hiN (hIx _ _ _ _ hi (Mv.putObj _ (by omega) hl rfl)) ((World.putObj_heap_other (by omega)).trans hk)).out b⟩⟩
end
end Go.Proofs.YtfmoabgjaclkpaaGreatDoor

namespace Go.Proofs.YtfmoabgjaclkpaaGreatDoor
set_option maxRecDepth 1000000
set_option maxHeartbeats 4000000
set_option synthInstance.maxHeartbeats 0
set_option synthInstance.maxSize 9999
open Go.RowKit
theorem ev_wrap8 {w : World} {r : Result Next} {a : Int} (h : r = .ok (.value (.int .u8 (IntKind.u8.wrap a))) w) (h0 : 0 ≤ a) (h1 : a < 256) : r = .ok (.value (.int .u8 a)) w := by
 have e : IntKind.u8.wrap a = a := by rw [IntKind.wrap_u8]; omega
 rw [h, e]
theorem ev_wrapI {w : World} {r : Result Next} {a : Int} (h : r = .ok (.value (.int .i64 (IntKind.i64.wrap a))) w) (h0 : -9223372036854775808 ≤ a) (h1 : a < 9223372036854775808) : r = .ok (.value (.int .i64 a)) w := by
 have e : IntKind.i64.wrap a = a := by rw [IntKind.wrap_i64]; omega
 rw [h, e]
theorem eqG_and {P : Program} {w : World} {t : TypeId} {x y : Operand} {a b : Value} : (eqGuard .and t x y a b).run P w = .ok () w := by simp [eqGuard]
theorem eqG_or {P : Program} {w : World} {t : TypeId} {x y : Operand} {a b : Value} : (eqGuard .or t x y a b).run P w = .ok () w := by simp [eqGuard]
theorem eqG_xor {P : Program} {w : World} {t : TypeId} {x y : Operand} {a b : Value} : (eqGuard .xor t x y a b).run P w = .ok () w := by simp [eqGuard]
theorem eqG_shl {P : Program} {w : World} {t : TypeId} {x y : Operand} {a b : Value} : (eqGuard .shl t x y a b).run P w = .ok () w := by simp [eqGuard]
def encG (z i : Nat) : List Value := [.int .u8 ((z / 128 ^ i % 128 : Nat) : Int), .bool (decide (z / 128 ^ i < 128))]
theorem yield_to {F : Fence} {m : Nat} {P : Program} {l : Nat} {xs bs : List Value} {W : World} {R : Ending → World → Prop} (h : YieldAt F m P l xs.toArray W R) (e : xs = bs) : YieldAt F m P l bs.toArray W R := e ▸ h
theorem div_step (z i : Nat) : z / 128 ^ i / 2 ^ 7 = z / 128 ^ (i + 1) := by
 show z / 128 ^ i / 128 = _
 rw [Nat.div_div_eq_div_mul, ← Nat.pow_succ]
theorem groups_c (z : Nat) (w : World) : Calls Tryz.prog 91 #[.int .u64 ((z : Nat) : Int)] w fun e w' => ∃ B, e = .returned (.func (.func 107) #[] #[pw B 0]) ∧ w.heap.size ≤ B ∧ BoxAt w' B 0 (.int .u64 ((z : Nat) : Int)) ∧ Ext w w' := by
 refine calls_cw 4 [(0, .int .u64 ((z : Nat) : Int))] Tryz.func91 rfl Tryz.ntmps91 (by kernel_rfl) (by kernel_rfl) (fun L => ?_);have hE := Ext.refl w;refine zc (zp (pS (sw 110 #[.int .u64 ((z : Nat) : Int)] ?_)));intro O1 X2 hzO1 hyO1 hb hbx;have bO1_0 := bq1 hbx;replace hE := hE.trans hb;have hs3 := hb.size;have lt4 := bO1_0.lt;refine pT (Value.nilFunc) ?_;refine zn (zc (zp (pD (.func (.func 107) #[] #[pw O1 0]) (.func (.func 107) #[] #[pw O1 0]) ?_)));refine zn (cw_ret (qw_ret [.func (.func 107) #[] #[pw O1 0]] rfl ⟨(by kernel_rfl), trivial⟩ ?_));exact ⟨O1, rfl, (Nat.le_of_eq hzO1), bO1_0, hE⟩
theorem groups_seq {z B : Nat} {X : Nat → Prop} {w1 : World} (hz : z < 9223372036854775808) (cB : BoxAt w1 B 0 (.int .u64 ((z : Nat) : Int))) (hBX : ¬ X B) :
  SeqT Tryz.prog 107 #[pw B 0] (Wire.vb z).length (encG z) (fun _ _ => True) X B w1 := by
 intro l9 J Jx w hW hJst hJxst hJT hJxT hY Bi n9;replace cB := cB.x hW;have hBl := cB.lt;refine icalls 18 [(1, pw B 0), (0, .func (.yield l9) #[] #[])] Tryz.func107 rfl Tryz.ntmps107 (by kernel_rfl) (by kernel_rfl) (fun L mm => ?_);have hE := Ext.refl w;refine icw_block ?_;have hJs := hJst _ _ _ Bi (Ext.refl _);have Bh : BoxAt w B 0 (.int .u64 ((z / 128 ^ 0 : Nat) : Int)) := by rw [Nat.pow_zero, Nat.div_one];exact cB
 refine icw_loop [0, 1] (fun ws' wr m => ∃ i : Nat, ws' = [(0, .func (.yield l9) #[] #[]), (1, pw B 0)] ∧ m = (Wire.vb z).length - i ∧ w.heap.size ≤ wr.heap.size ∧ BoxAt wr B 0 (.int .u64 ((z / 128 ^ i : Nat) : Int)) ∧ J i wr ∧ i < (Wire.vb z).length) (ws0 := [(0, .func (.yield l9) #[] #[]), (1, pw B 0)]) (by kernel_rfl) _ ⟨0, rfl, rfl, Nat.le_refl _, Bh, hJs, Wire.vb_pos z⟩ ?_;clear cB;rintro m3 L ws w2 ⟨i, rfl, rfl, Bo, B0, Bg, hi⟩;have Bs := Ext.refl w2;have hpt := (Wire.vb_last hz hi)
 by_cases hl : z / 128 ^ i < 128
 ·
  have hG : encG z i = [.int .u8 ((z / 128 ^ i % 128 : Nat) : Int), .bool true] := by unfold encG;rw [decide_eq_true hl]
  refine icw_block ?_;refine icw_seq ?_;have hyz : z / 128 ^ i ≤ z := Nat.div_le_self _ _;refine icw_plain (iU (.int .u64 ((z / 128 ^ i : Nat) : Int)) (xl (ld110 (B0.1))) ?_);refine iU (.bool true) (ed (((z / 128 ^ i : Nat) : Int) < (128 : Int)) (by omega)) ?_;refine iT (.bool true) ?_;refine ipl_nil (iqw_then (icw_seq (icw_seq (icw_plain (iT (.func (.yield l9) #[] #[]) ?_)))));refine iU (.int .u64 ((z / 128 ^ i : Nat) : Int)) (xl (ld110 (B0.1))) ?_;refine iU (.int .u64 ((z / 128 ^ i % 128 : Nat) : Int)) (ex_binV (a := .int .u64 ((z / 128 ^ i : Nat) : Int)) (b := .int .u64 127) rfl (by kernel_rfl) (by kernel_rfl) eqG_and (and_64 (b := 127) (by omega) (by omega) (and_127 _))) ?_;refine iU (.int .u8 ((z / 128 ^ i % 128 : Nat) : Int)) (ev_wrap8 (a := ((z / 128 ^ i % 128 : Nat) : Int)) (by kernel_rfl) (by omega) (by omega)) ?_;refine iT (.bool true) ?_;refine ipl_yield rfl (by kernel_rfl) (by kernel_rfl) (by kernel_rfl) (sy_yield (args := #[.int .u8 ((z / 128 ^ i % 128 : Nat) : Int), .bool true]) rfl (by kernel_rfl) (by kernel_rfl) (yield_mono (yield_to (hY i _ _ hi (hJst _ _ _ Bg (Ext.refl _)) trivial) hG) ?_));rintro e w5 (⟨rfl, Bc, B8⟩ | ⟨rfl, Bc, B8⟩)
  ·
   replace B0 := B8.box hBX B0;have Bu := B8.size;have Bt := Ext.refl w5;refine ⟨_, rfl, iT (.bool false) ?_⟩;refine iT (.bool false) ?_;refine iT (.bool true) ?_;refine iT (.bool true) ?_;refine ipl_nil (iqw_then (icw_clean [0, 1, 15] (ws' := [(0, .func (.yield l9) #[] #[]), (1, pw B 0), (15, .bool true)]) (by kernel_rfl) (fun L => ?_)));refine icw_t (by kernel_rfl) ?_;refine icw_ret ?_;refine iqw_then_ret ?_;refine iqw_block_ret ?_;refine iqw_then_ret ?_;refine iqw_block_ret ?_;refine iqw_ret0 [] rfl trivial ?_;exact ⟨⟨_, rfl⟩, .inl (hpt.2 hl ▸ hJst _ _ _ Bc (Ext.refl _))⟩
  ·
   replace B0 := B8.box hBX B0;have Bp := B8.size;have Bj := Ext.refl w5;refine ⟨_, rfl, iT (.bool true) ?_⟩;refine iT (.bool true) ?_;refine iK ?_;refine iT (.bool true) ?_;refine ipl_nil (iqw_then (icw_clean [0, 1, 15] (ws' := [(0, .func (.yield l9) #[] #[]), (1, pw B 0), (15, .bool true)]) (by kernel_rfl) (fun L => ?_)));refine icw_t (by kernel_rfl) ?_;refine icw_ret ?_;refine iqw_then_ret ?_;refine iqw_block_ret ?_;refine iqw_then_ret ?_;refine iqw_block_ret ?_;refine iqw_ret0 [] rfl trivial ?_;exact ⟨⟨_, rfl⟩, .inr ⟨i, hi, hJxst _ _ _ Bc (Ext.refl _)⟩⟩
 ·
  have hG : encG z i = [.int .u8 ((z / 128 ^ i % 128 : Nat) : Int), .bool false] := by unfold encG;rw [decide_eq_false hl]
  refine icw_block ?_;refine icw_seq ?_;have hyz : z / 128 ^ i ≤ z := Nat.div_le_self _ _;refine icw_plain (iU (.int .u64 ((z / 128 ^ i : Nat) : Int)) (xl (ld110 (B0.1))) ?_);refine iU (.bool false) (en (((z / 128 ^ i : Nat) : Int) < (128 : Int)) (by omega)) ?_;refine iT (.bool false) ?_;refine ipl_nil (iqw_then (icw_seq (icw_seq (icw_plain (iT (.func (.yield l9) #[] #[]) ?_)))));refine iU (.int .u64 ((z / 128 ^ i : Nat) : Int)) (xl (ld110 (B0.1))) ?_;refine iU (.int .u64 ((z / 128 ^ i % 128 : Nat) : Int)) (ex_binV (a := .int .u64 ((z / 128 ^ i : Nat) : Int)) (b := .int .u64 127) rfl (by kernel_rfl) (by kernel_rfl) eqG_and (and_64 (b := 127) (by omega) (by omega) (and_127 _))) ?_;refine iU (.int .u8 ((z / 128 ^ i % 128 : Nat) : Int)) (ev_wrap8 (a := ((z / 128 ^ i % 128 : Nat) : Int)) (by kernel_rfl) (by omega) (by omega)) ?_;refine iT (.bool false) ?_;refine ipl_yield rfl (by kernel_rfl) (by kernel_rfl) (by kernel_rfl) (sy_yield (args := #[.int .u8 ((z / 128 ^ i % 128 : Nat) : Int), .bool false]) rfl (by kernel_rfl) (by kernel_rfl) (yield_mono (yield_to (hY i _ _ hi (hJst _ _ _ Bg (Ext.refl _)) trivial) hG) ?_));rintro e Ba (⟨rfl, B4, B3⟩ | ⟨rfl, B4, B3⟩)
  ·
   replace B0 := B3.box hBX B0;have Be := B3.size;have Bk := Ext.refl Ba;refine ⟨_, rfl, iT (.bool false) ?_⟩;refine iT (.bool false) ?_;refine iT (.bool false) ?_;refine iT (.bool false) ?_;refine ipl_nil (iqw_then (icw_clean [0, 1, 15] (ws' := [(0, .func (.yield l9) #[] #[]), (1, pw B 0), (15, .bool false)]) (by kernel_rfl) (fun L => ?_)));refine icw_f (by kernel_rfl) ?_;refine icw_skip (iqw_then (icw_plain (iU (.int .u64 ((z / 128 ^ i : Nat) : Int)) (xl (ld110 (B0.1))) ?_)));refine iU (.int .u64 ((z / 128 ^ i / 2 ^ 7 : Nat) : Int)) (ex_binV (a := .int .u64 ((z / 128 ^ i : Nat) : Int)) (b := .int .u64 7) rfl (by kernel_rfl) (by kernel_rfl) eqG_shr (shr_64 (n := 7) (by omega))) ?_;have B7 := hJst _ _ _ B4 (Ext.refl _);have B2 := B0;refine iP (zE B 0 (.int .u64 ((z / 128 ^ i / 2 ^ 7 : Nat) : Int)) (st110 B2.1 B2.2) B2 ?_);intro Bb ho Br hk;replace B7 := hJT _ _ _ B7 ho;clear hk;have Bf := Nat.le_of_eq ho.size.symm;clear ho;have Bm := Ext.refl Bb;refine ipl_nil (iqw_block (iqw_round [0, 1] (ws' := [(0, .func (.yield l9) #[] #[]), (1, pw B 0)]) (by kernel_rfl) _ ?_ ⟨(i + 1), rfl, rfl, (T Bo (T Be Bf)), (by rw [← div_step]; exact Br), B7, (by omega)⟩));omega
  ·
   have Bq := B3.size;have Bn := Ext.refl Ba;refine ⟨_, rfl, iT (.bool true) ?_⟩;refine iT (.bool true) ?_;refine iK ?_;refine iT (.bool true) ?_;refine ipl_nil (iqw_then (icw_clean [0, 1, 15] (ws' := [(0, .func (.yield l9) #[] #[]), (1, pw B 0), (15, .bool true)]) (by kernel_rfl) (fun L => ?_)));refine icw_t (by kernel_rfl) ?_;refine icw_ret ?_;refine iqw_then_ret ?_;refine iqw_block_ret ?_;refine iqw_then_ret ?_;refine iqw_block_ret ?_;refine iqw_ret0 [] rfl trivial ?_;exact ⟨⟨_, rfl⟩, .inr ⟨i, hi, hJxst _ _ _ B4 (Ext.refl _)⟩⟩
theorem PutInt_n {n : Nat} (w : World) (hn : n ≤ 4611686018427387903) : Calls Tryz.prog 70 #[iv n] w fun e w' => e = .returned (.tuple #[.string ⟨(Wire.vb (n * 2)).toArray⟩, iv 0]) ∧ Ext w w' := by
 refine icalls_cw 33 [(0, iv n)] Tryz.func70 rfl Tryz.ntmps70 (by kernel_rfl) (by kernel_rfl) (fun L mm => ?_);have hE := Ext.refl w;refine icw_seq (icw_plain (iT (.string (⟨#[]⟩)) ?_));refine iT (iv 0) ?_;refine ipl_nil (iqw_then (icw_seq (icw_seq (icw_plain (iT (iv n) ?_)))));refine iU (.bool false) (en (((n : Nat) : Int) < (-4611686018427387903 : Int)) (by omega)) ?_;refine iT (.bool false) ?_;refine iT (iv n) ?_;refine iU (.bool false) (en (((n : Nat) : Int) > (4611686018427387903 : Int)) (by omega)) ?_;refine iT (.bool false) ?_;refine ipl_nil (iqw_then (icw_f (by kernel_rfl) ?_));refine icw_skip (iqw_then (icw_seq (icw_plain (iS (sw 63 #[.slice none 0 0] ?_)))));intro O1 X2 C5 Cx hb hbx;have Be := bq1 hbx;replace hE := hE.trans hb;have Bv := hb.size;have By := Be.lt;refine ipl_nil (iqw_then (icw_seq (icw_seq (icw_plain (iT (iv n) ?_)))));refine iU (.int .u64 ((n : Nat) : Int)) (ev_wrapU (a := ((n : Nat) : Int)) (by kernel_rfl) (by omega) (by omega)) ?_;refine iU (.int .u64 ((n * 2 : Nat) : Int)) (ex_binV (a := .int .u64 ((n : Nat) : Int)) (b := .int .u64 1) rfl (by kernel_rfl) (by kernel_rfl) eqG_shl (shl_64 (n := 1) (by omega) (by omega) (by omega))) ?_;refine iT (iv n) ?_;refine iU (iv 0) (ex_binV (a := iv n) (b := .int .u64 63) rfl (by kernel_rfl) (by kernel_rfl) eqG_shr (shr_sign (by omega) (by omega))) ?_;refine iT (.int .u64 0) ?_;refine iU (.int .u64 ((n * 2 : Nat) : Int)) (ex_binV (a := .int .u64 ((n * 2 : Nat) : Int)) (b := .int .u64 0) rfl (by kernel_rfl) (by kernel_rfl) eqG_xor (xor_64 (b := 0) (by omega) (by omega) (Nat.xor_zero _))) ?_;refine iS (sc 91 #[.int .u64 ((n * 2 : Nat) : Int)] ((groups_c (n * 2) _).mono ?_));rintro e w8 ⟨B5, rfl, Ca, C7, hb⟩;refine mv2 hb hE Be fun hE Be=>?_;have Bj := hb.size;have C6 := C7.lt;refine ⟨_, rfl, ?_⟩;refine ipl_nil (iqw_then (icw_clean [4, 20] (ws' := [(4, pw O1 0), (20, .func (.func 107) #[] #[pw B5 0])]) (by kernel_rfl) (fun L => ?_)));refine icw_block ?_;refine icw_rangeT (ps := [21, 22]) (by kernel_rfl) (enters_of Tryz.func107 (by kernel_rfl) rfl) (groups_seq (X := (fun k => k = O1 ∨ w8.heap.size ≤ k)) (by omega) C7 (fun h => h.elim (by omega) (fun q => absurd (Nat.lt_of_lt_of_le C6 (Nat.le_refl _)) (Nat.not_lt_of_le q)))) (Ext.refl _) (fun _ => rfl) (by kernel_rfl) (fun i W => ∃ a9 : Option Addr, ∃ c9 : Nat, w8.heap.size ≤ W.heap.size ∧ Ext w W ∧ BoxAt W O1 0 (.slice a9 i c9) ∧ OwnL byteR w8.heap.size 5 1 (.slice a9 i c9) W ((Wire.vb (n * 2)).take i)) (fun _ _ _ => False) (fun i A B h hm => by obtain ⟨a9, c9, hsz, hE, b9, B7⟩ := h; exact ⟨a9, c9, T hsz hm.size, hm.ext hE (T Bv Bj), hm.box b9, hm.own B7⟩) (fun _ _ _ _ h _ => h.elim) (fun i A B h ho => by obtain ⟨a9, c9, hsz, hE, b9, B7⟩ := h; exact ⟨a9, c9, T hsz (Nat.le_of_eq ho.size.symm), ho.ext hE (T Bv Ca), ho.box (by omega) b9, B7.turn ho (own_not (B7.base) (Nat.lt_of_lt_of_le C6 (Nat.le_refl _))) (fun _ _ _ h => by rw [h.2]; exact fun b hb => by cases hb)⟩) (fun _ _ _ _ h _ => h.elim) ⟨none, 0, Nat.le_refl _, hE, Be, OwnL.nil _ _ _ _ _⟩ ?_ ?_ ?_
 ·
  clear Be C7 hE;intro D4 D3 i C8 hii h _;obtain ⟨a9, c9, Bk, hE, b9, B7⟩ := h;have htk : ((Wire.vb (n * 2)).take i).length = i := by rw [List.length_take];omega
  have htn := Wire.vb_take (z := n * 2) (by omega) hii;have hsm := Wire.vb_small (z := n * 2) (by omega) hii;have Cq := Ext.refl C8;refine icw_clean [4, 21, 22] (ws' := [(4, pw O1 0), (21, .int .u8 ((n * 2 / 128 ^ i % 128 : Nat) : Int)), (22, .bool (decide (n * 2 / 128 ^ i < 128)))]) (by kernel_rfl) (fun L => ?_);have Bs : RK w8.heap.size (fun k => k = O1 ∨ w8.heap.size ≤ k) C8 C8 := RK.refl _ _ _
  by_cases hl : n * 2 / 128 ^ i < 128
  ·
   rw [decide_eq_true hl];refine icw_seq (icw_plain (iT (.int .u8 ((n * 2 / 128 ^ i % 128 : Nat) : Int)) ?_));refine ipl_nil (iqw_then (icw_plain (iT (.bool true) ?_)));refine ipl_nil (iqw_asg Bs (fun w18 hm17 => ?_));have B3 := b9;have B0 := B7;replace hE := hm17.ext hE (T Bv Bj);replace B3 := hm17.box B3;replace B0 := hm17.own B0;have C0 := hm17.size;have B8 : RK w8.heap.size (fun k => k = O1 ∨ w8.heap.size ≤ k) w18 w18 := RK.refl _ _ _;refine icw_block ?_;refine icw_seq (icw_seq (icw_plain (iT (.bool true) ?_)));refine iT (.bool false) ?_;refine ipl_nil (iqw_then (icw_f (by kernel_rfl) ?_));refine icw_skip (iqw_then (icw_plain (iU (.slice a9 i c9) (xl (ld63 (B3.1))) ?_)));refine iT (.int .u8 ((n * 2 / 128 ^ i % 128 : Nat) : Int)) ?_;refine iS (sn_newS (us := #[.int .u8 ((n * 2 / 128 ^ i % 128 : Nat) : Int)]) (t := 5) (k := 1) (c := 1) (by kernel_rfl) ?_);intro Cm D1 Ci Cg hb hbx;have Bh := bq1 hbx;refine mv4 hb hE B3 B0 B8 fun hE B3 B0 B8=>?_;have C1 := hb.size;have Cy := Bh.lt;have Bm := B0.base;obtain ⟨Bw, Bf, Ck, Bt, Bb, Bq, Bo⟩ := own_app1k (P := Tryz.prog) (ty := 63) byteT (B0) (T Bk (T C0 C1)) (k := i) htk (O := Cm) (c := 1) (x := Wire.byt (n * 2 / 128 ^ i)) (d := [.int .u8 ((n * 2 / 128 ^ i % 128 : Nat) : Int)]) (F := []) rfl (cells1 (Bh.1)) (by simp [Value.oneCell']) (⟨by rw [Wire.byt_small hl, Nat.mod_eq_of_lt hl], rfl⟩) (fun b hb => by cases hb) (by omega) (by omega);refine iS (sn_eff (v := sv Bw 0 (i + 1) Bf) (w' := Ck) (ex_append rfl (by kernel_rfl) (by kernel_rfl) Bt) ?_);replace B3 := BoxAt.grownR B3 Bo (own_not Bm (Nat.lt_of_lt_of_le By Bj));replace B8 := B8.app Bo (B0) (fun k hk => .inl (.inr (Bm k hk)));replace hE := Bq.ext _ hE (T Bv Bj);have Cb := Bq.size;have Ct := Bb.base Bw rfl;have Cr := Bb.lt Bw rfl;rw [← htn] at Bb;refine iP (zE O1 0 (sv Bw 0 (i + 1) Bf) (st63 B3.1 B3.2) B3 ?_);intro Co ho B3 hk;replace hE := ho.ext hE (Nat.le_of_eq C5);replace B8 := B8.turn ho (.inl (.inl rfl));replace Bb := Bb.turn ho (own_not (Bb.base) (Nat.lt_of_lt_of_le By Bj)) (fun _ _ _ h => by rw [h.2]; exact fun b hb => by cases hb);have Cc := Nat.le_of_eq ho.size.symm;clear ho hk;refine ipl_nil (iqw_block ?_);exact iqw_next B8 ⟨(some ⟨Bw, 0, none⟩), Bf, (T Bk (T C0 (T C1 (T Cb Cc)))), hE, B3, Bb⟩
  ·
   rw [decide_eq_false hl];refine icw_seq (icw_plain (iT (.int .u8 ((n * 2 / 128 ^ i % 128 : Nat) : Int)) ?_));refine ipl_nil (iqw_then (icw_plain (iT (.bool false) ?_)));refine ipl_nil (iqw_asg Bs (fun w42 hm41 => ?_));have B4 := b9;have B2 := B7;replace hE := hm41.ext hE (T Bv Bj);replace B4 := hm41.box B4;replace B2 := hm41.own B2;have C2 := hm41.size;have Ba : RK w8.heap.size (fun k => k = O1 ∨ w8.heap.size ≤ k) w42 w42 := RK.refl _ _ _;refine icw_block ?_;refine icw_seq (icw_seq (icw_plain (iT (.bool false) ?_)));refine iT (.bool true) ?_;refine ipl_nil (iqw_then (icw_t (by kernel_rfl) ?_));refine icw_plain (iT (.int .u8 ((n * 2 / 128 ^ i % 128 : Nat) : Int)) ?_);refine iU (.int .u8 ((n * 2 / 128 ^ i % 128 + 128 : Nat) : Int)) (ex_binV (a := .int .u8 ((n * 2 / 128 ^ i % 128 : Nat) : Int)) (b := .int .u8 128) rfl (by kernel_rfl) (by kernel_rfl) eqG_or (or_8 (b := 128) (by omega) (by omega) (or_128 (by omega)))) ?_;refine iT (.int .u8 ((n * 2 / 128 ^ i % 128 + 128 : Nat) : Int)) ?_;refine ipl_nil (iqw_then (icw_plain (iU (.slice a9 i c9) (xl (ld63 (B4.1))) ?_)));refine iT (.int .u8 ((n * 2 / 128 ^ i % 128 + 128 : Nat) : Int)) ?_;refine iS (sn_newS (us := #[.int .u8 ((n * 2 / 128 ^ i % 128 + 128 : Nat) : Int)]) (t := 5) (k := 1) (c := 1) (by kernel_rfl) ?_);intro Cn D2 Cj Ch hb hbx;have Bi := bq1 hbx;refine mv4 hb hE B4 B2 Ba fun hE B4 B2 Ba=>?_;have C3 := hb.size;have Cz := Bi.lt;have Bn := B2.base;obtain ⟨Bx, Bg, Cl, Bu, Bc, Br, Bp⟩ := own_app1k (P := Tryz.prog) (ty := 63) byteT (B2) (T Bk (T C2 C3)) (k := i) htk (O := Cn) (c := 1) (x := Wire.byt (n * 2 / 128 ^ i)) (d := [.int .u8 ((n * 2 / 128 ^ i % 128 + 128 : Nat) : Int)]) (F := []) rfl (cells1 (Bi.1)) (by simp [Value.oneCell']) (⟨by rw [Wire.byt_big hl], rfl⟩) (fun b hb => by cases hb) (by omega) (by omega);refine iS (sn_eff (v := sv Bx 0 (i + 1) Bg) (w' := Cl) (ex_append rfl (by kernel_rfl) (by kernel_rfl) Bu) ?_);replace B4 := BoxAt.grownR B4 Bp (own_not Bn (Nat.lt_of_lt_of_le By Bj));replace Ba := Ba.app Bp (B2) (fun k hk => .inl (.inr (Bn k hk)));replace hE := Br.ext _ hE (T Bv Bj);have Cd := Br.size;have Cu := Bc.base Bx rfl;have Cs := Bc.lt Bx rfl;rw [← htn] at Bc;refine iP (zE O1 0 (sv Bx 0 (i + 1) Bg) (st63 B4.1 B4.2) B4 ?_);intro Cp ho B4 hk;replace hE := ho.ext hE (Nat.le_of_eq C5);replace Ba := Ba.turn ho (.inl (.inl rfl));replace Bc := Bc.turn ho (own_not (Bc.base) (Nat.lt_of_lt_of_le By Bj)) (fun _ _ _ h => by rw [h.2]; exact fun b hb => by cases hb);have Ce := Nat.le_of_eq ho.size.symm;clear ho hk;refine ipl_nil (iqw_block ?_);exact iqw_next Ba ⟨(some ⟨Bx, 0, none⟩), Bg, (T Bk (T C2 (T C3 (T Cd Ce)))), hE, B4, Bc⟩
 ·
  clear Be C7 hE;intro D0 D5 C9 Cf h Bz;obtain ⟨a9, c9, Cv, hE, b9, B7⟩ := h;rw [List.take_length] at B7;refine iqw_block (iqw_then (icw_seq (icw_plain (iU (.slice a9 (((Wire.vb (n * 2)).length)) c9) (xl (ld63 (b9.1))) ?_))));refine iU (.string (⟨(Wire.vb (n * 2)).toArray⟩)) (ex_conv rfl (by kernel_rfl) (own_str B7 rfl)) ?_;refine iT (.string (⟨(Wire.vb (n * 2)).toArray⟩)) ?_;refine iT (iv 0) ?_;refine ipl_nil (iqw_then (icw_ret ?_));refine iqw_ret w.heap.size [.string (⟨(Wire.vb (n * 2)).toArray⟩), iv 0] rfl (marksC (T (T Bv Bj) C9) Bz (fun _ h => by cases h)) (by simp) (fun W9 hm9 => ?_);replace hE := hm9.ext hE (Nat.le_refl _);have Cw := hm9.size;refine ⟨⟨(by kernel_rfl), (by kernel_rfl), trivial⟩, ?_⟩;exact ⟨rfl, hE⟩
 · intro _ _ _ _ _ _ _ h _;exact h.elim
theorem PutInt_c {n : Int} (w : World) (h0 : 0 ≤ n) (hn : n ≤ 4611686018427387903) : Calls Tryz.prog 70 #[.int .i64 n] w fun e w' => e = .returned (.tuple #[.string (Wire.encI n), .int .i64 0]) ∧ Ext w w' := by
 obtain ⟨m, rfl⟩ := Int.eq_ofNat_of_zero_le h0
 have e : Wire.encI (m : Int) = ⟨(Wire.vb (m * 2)).toArray⟩ := by unfold Wire.encI; rw [show Wire.zz (m : Int) = m * 2 by unfold Wire.zz; rw [if_neg (by omega)]; omega]
 rw [e]; exact PutInt_n w (by omega)
end Go.Proofs.YtfmoabgjaclkpaaGreatDoor

namespace Go.Proofs.YtfmoabgjaclkpaaGreatDoor
set_option maxRecDepth 1000000
set_option maxHeartbeats 4000000
set_option synthInstance.maxHeartbeats 0
set_option synthInstance.maxSize 9999
open Go.RowKit
theorem ex_indexV {P : Program} {w : World} {ev : Operand → Value} {o : Oper} {t : TypeId} {x y : Operand} {p i v : Value} (hop : o.op = .index t x y) (hx : ev x = p) (hy : ev y = i) (h : (Instr.index t p i).run P w = .ok v w) : (execOp ev o).run P w = .ok (.value v) w := by
 simp [execOp, hop, hx, hy, h, Result.andThen]
theorem ix_str {w : World} {s : ByteArray} {i : Nat} {b : UInt8} (h : (Wire.bytes s)[i]? = some b) : (Instr.index 9 (.string s) (.int .i64 i)).run Tryz.prog w = .ok (.int .u8 ((b.toNat : Nat) : Int)) w := by
 obtain ⟨hi, rfl⟩ := List.getElem?_eq_some_iff.1 h
 rw [Wire.bytes_len] at hi
 rw [run_index_string w 9 s .i64 _ Tryz.underlying9, dif_pos ⟨by omega, by omega⟩]
 rfl
theorem slS_11 {w : World} {s : ByteArray} {i j : Nat} (h1 : i ≤ j) (h2 : j ≤ s.size) : (Instr.sliceAt 9 (.string s) (some (.int .i64 i)) (some (.int .i64 j)) none).run Tryz.prog w = .ok (.string (s.extract i j)) w := by
 rw [run_sliceAt_string w 9 _ _ _ _ Tryz.underlying9, run_slice_string w 9 s .i64 .i64 _ _ Tryz.underlying9 (by omega) (by omega) (by omega)]; rfl
theorem slS_01 {w : World} {s : ByteArray} {j : Nat} (h2 : j ≤ s.size) : (Instr.sliceAt 9 (.string s) none (some (.int .i64 j)) none).run Tryz.prog w = .ok (.string (s.extract 0 j)) w := by
 rw [run_sliceAt_string w 9 _ _ _ _ Tryz.underlying9, run_slice_string_to_if w 9 s .i64 _ Tryz.underlying9, if_pos ⟨by omega, by omega⟩]; rfl
namespace Wire
theorem encI_size (n : Int) : (encI n).size ≤ 10 := vb_len (zz n)
def encS (s : ByteArray) : ByteArray := encI ((s.size : Nat) : Int) ++ s
theorem p128 (i : Nat) : 2 ^ (7 * i) = 128 ^ i := by rw [Nat.pow_mul]
theorem p128_le {i : Nat} (h : i ≤ 8) : 128 ^ i ≤ 72057594037927936 := T (Nat.pow_le_pow_right (by decide) h) (by decide)
theorem dig_lt {b i : Nat} (h : i ≤ 8) : b % 128 * 128 ^ i < 9223372036854775808 := by
 have h1 := p128_le h
 have h2 : b % 128 * 128 ^ i ≤ 127 * 128 ^ i := Nat.mul_le_mul_right _ (by omega)
 omega
theorem dig_sum {b i z : Nat} (hz : z < 128 ^ i) : z + b % 128 * 128 ^ i < 128 ^ (i + 1) := by
 have h2 : b % 128 * 128 ^ i ≤ 127 * 128 ^ i := Nat.mul_le_mul_right _ (by omega)
 rw [Nat.pow_succ]; omega
theorem or_128i {y i z : Nat} (hz : z < 128 ^ i) : z ||| y * 128 ^ i = z + y * 128 ^ i := by rw [← p128] at *; exact or_shift hz
theorem scan_more {s : List UInt8} {a k i z : Nat} {b : UInt8} (hb : s[a + i]? = some b) (h : ¬ b.toNat < 128) : scan s a (k + 1) i z = scan s a k (i + 1) (z + b.toNat % 128 * 128 ^ i) := by
 rw [scan, hb]; dsimp only; rw [if_neg h]
theorem scan_out {s : List UInt8} {a k i z : Nat} (hb : s[a + i]? = none) : scan s a (k + 1) i z = none := by rw [scan, hb]
theorem scan_zero {s : List UInt8} {a k i z : Nat} {b : UInt8} (hb : s[a + i]? = some b) (h : b.toNat = 0) (hi : 0 < i) : scan s a (k + 1) i z = none := by
 rw [scan, hb]; dsimp only; rw [if_pos (by omega), if_pos ⟨h, hi⟩]
theorem scan_last {s : List UInt8} {a k i z : Nat} {b : UInt8} (hb : s[a + i]? = some b) (h : b.toNat < 128) (h0 : ¬ (b.toNat = 0 ∧ 0 < i)) : scan s a (k + 1) i z = some (z + b.toNat % 128 * 128 ^ i, i) := by
 rw [scan, hb]; dsimp only; rw [if_pos h, if_neg h0]
theorem rd_none {s : List UInt8} {a : Nat} (h : scan s a 9 0 0 = none) : rdI s a = none := by unfold rdI; rw [h]
theorem rd_big {s : List UInt8} {a z i : Nat} (h : scan s a 9 0 0 = some (z, i)) (hz : ¬ z < 9223372036854775807) : rdI s a = none := by unfold rdI; rw [h]; exact if_neg hz
theorem rd_some {s : List UInt8} {a z i : Nat} (h : scan s a 9 0 0 = some (z, i)) (hz : z < 9223372036854775807) : rdI s a = some (uz z, a + i + 1) := by unfold rdI; rw [h]; exact if_pos hz
theorem uz_lo {z : Nat} (h : z < 9223372036854775807) : ¬ uz z < -4611686018427387903 := by have := fits_uz h; unfold fits at this; omega
theorem uz_lo' {z : Nat} (h : ¬ z < 9223372036854775807) (h2 : z < 9223372036854775808) : uz z < -4611686018427387903 := by
 obtain rfl : z = 9223372036854775807 := by omega
 unfold uz; simp
theorem get_none {s : ByteArray} {i : Nat} (h : s.size ≤ i) : (bytes s)[i]? = none := List.getElem?_eq_none (by rw [bytes_len]; exact h)
theorem get_some {s : ByteArray} {i : Nat} (h : i < s.size) : ∃ b, (bytes s)[i]? = some b := ⟨_, List.getElem?_eq_getElem (by rw [bytes_len]; exact h)⟩
def rdS (s : ByteArray) (a : Nat) : Option (ByteArray × Nat) := match rdI (bytes s) a with
 | none => none
 | some (n, nx) => if n < 0 ∨ n > 65536 ∨ n > (s.size : Int) - nx then none else some (s.extract nx (nx + n.toNat), nx + n.toNat)
theorem rdS_none {s : ByteArray} {a : Nat} (h : rdI (bytes s) a = none) : rdS s a = none := by unfold rdS; rw [h]
theorem rdS_bad {s : ByteArray} {a nx : Nat} {n : Int} (h : rdI (bytes s) a = some (n, nx)) (hb : n < 0 ∨ n > 65536 ∨ n > (s.size : Int) - nx) : rdS s a = none := by unfold rdS; rw [h]; exact if_pos hb
theorem rdS_some {s : ByteArray} {a nx m : Nat} (h : rdI (bytes s) a = some ((m : Int), nx)) (hb : ¬ ((m : Int) < 0 ∨ (m : Int) > 65536 ∨ (m : Int) > (s.size : Int) - nx)) : rdS s a = some (s.extract nx (nx + m), nx + m) := by unfold rdS; rw [h]; exact if_neg hb
end Wire
def OptI (o : Option (Int × Nat)) (v nx er : Int) : Prop := match o with
 | none => v = 0 ∧ nx = 0 ∧ er = 10
 | some (n, m) => v = n ∧ nx = (m : Int) ∧ er = 0
def OptS (o : Option (ByteArray × Nat)) (x : ByteArray) (nx er : Int) : Prop := match o with
 | none => x = ⟨#[]⟩ ∧ nx = 0 ∧ er = 10
 | some (y, m) => x = y ∧ nx = (m : Int) ∧ er = 0
theorem PutString_c {s : ByteArray} (w : World) (hs : s.size ≤ 65536) : Calls Tryz.prog 71 #[.string s] w fun e w' => e = .returned (.tuple #[.string (Wire.encS s), iv 0]) ∧ Ext w w' := by
 refine calls_cw 18 [(0, .string s)] Tryz.func71 rfl Tryz.ntmps71 (by kernel_rfl) (by kernel_rfl) (fun L => ?_);have hE := Ext.refl w;refine zc (zp (pD (.string (⟨#[]⟩)) (iv 0) ?_));refine zn (zc (zc (zp (pD (.string s) (iv ((ByteArray.size s : Nat) : Int)) ?_))));refine pU (.bool false) (en (((ByteArray.size s : Nat) : Int) > (65536 : Int)) (by omega)) ?_;refine zn (zf ?_);refine cw_skip (zq (zc (zp (pD (.string s) (iv ((ByteArray.size s : Nat) : Int)) ?_))));refine pS (sc 70 #[iv ((ByteArray.size s : Nat) : Int)] ((PutInt_c (n := ((ByteArray.size s : Nat) : Int)) _ (by omega) (by omega)).mono ?_));rintro e w1 ⟨rfl, hb⟩;replace hE := hE.trans hb;have hs2 := hb.size;refine ⟨_, rfl, pD (.tuple #[.string (Wire.encI (((ByteArray.size s : Nat) : Int))), iv 0]) (.string (Wire.encI (((ByteArray.size s : Nat) : Int)))) ?_⟩;refine pD (iv 0) (.string (Wire.encI (((ByteArray.size s : Nat) : Int)))) ?_;refine pT (iv 0) ?_;refine zn (zc (zp (pD (.string (Wire.encI (((ByteArray.size s : Nat) : Int)))) (.string s) ?_)));refine pU (.string ((Wire.encI (((ByteArray.size s : Nat) : Int))) ++ s)) (ex_binV (a := .string (Wire.encI (((ByteArray.size s : Nat) : Int)))) (b := .string s) rfl (by kernel_rfl) (by kernel_rfl) eqG_str (bin_cat (by have := Wire.encI_size ((ByteArray.size s : Nat) : Int); omega))) ?_;refine pD (.string ((Wire.encI (((ByteArray.size s : Nat) : Int))) ++ s)) (iv 0) ?_;refine zn (cK [2,3] (fun L => ?_));refine cw_ret (qw_ret [.string ((Wire.encI (((ByteArray.size s : Nat) : Int))) ++ s), iv 0] rfl ⟨(by kernel_rfl), (by kernel_rfl), trivial⟩ ?_);exact ⟨rfl, hE⟩
theorem Int_c {s : ByteArray} {a : Nat} (w : World) (hs : s.size ≤ 1000000) (ha : a ≤ s.size) : Calls Tryz.prog 74 #[.string s, iv a] w fun e w' => ∃ v nx er, e = .returned (.tuple #[iv v, iv nx, iv er]) ∧ OptI (Wire.rdI (Wire.bytes s) a) v nx er ∧ Ext w w' := by
 refine calls_cw 67 [(1, iv a), (0, .string s)] Tryz.func74 rfl Tryz.ntmps74 (by kernel_rfl) (by kernel_rfl) (fun L => ?_);have hE := Ext.refl w;refine zc (zp (pD (iv 0) (iv 0) ?_));refine pT (iv 0) ?_;refine zn (zc (zc (zp (pT (iv a) ?_))));refine pU (.bool false) (en (((a : Nat) : Int) < (0 : Int)) (by omega)) ?_;refine pD (.bool false) (iv a) ?_;refine pD (.string s) (iv ((ByteArray.size s : Nat) : Int)) ?_;refine pU (.bool false) (en (((a : Nat) : Int) > ((ByteArray.size s : Nat) : Int)) (by omega)) ?_;refine pT (.bool false) ?_;refine zn (zf ?_);refine cw_skip (zq (zc (zp (pT (.int .u64 0) ?_))));refine zn (zc (zc (zp (pT (iv 0) ?_))));refine zn (cK [0,1,7,19] (fun L => ?_));refine cw_block ?_;refine cw_loop [0, 1, 7, 19] (fun ws' wr m => ∃ i z : Nat, ws' = [(0, .string s), (1, iv a), (7, .int .u64 ((z : Nat) : Int)), (19, iv i)] ∧ m = 9 - i ∧ w.heap.size ≤ wr.heap.size ∧ Ext w wr ∧ i ≤ 9 ∧ z < 128 ^ i ∧ Wire.scan (Wire.bytes s) a 9 0 0 = Wire.scan (Wire.bytes s) a (9 - i) i z) (ws0 := [(0, .string s), (1, iv a), (7, .int .u64 0), (19, iv 0)]) (by kernel_rfl) _ ⟨0, 0, rfl, rfl, Nat.le_refl _, hE, Nat.zero_le _, by decide, rfl⟩ ?_;clear hE;rintro m3 L ws w2 ⟨i, z, rfl, rfl, B3, hE, hi, hz, hsc⟩
 by_cases hlt : i < 9
 ·
  have hpi := Wire.p128_le (show i ≤ 8 by omega);obtain ⟨k, hk⟩ : ∃ k, 9 - i = k + 1 := ⟨8 - i, by omega⟩;rw [hk] at hsc
  by_cases hin : a + i < s.size
  ·
   obtain ⟨b, hb⟩ := Wire.get_some hin;have hbl := b.toNat_lt;have hdg := Wire.dig_lt (b := b.toNat) (show i ≤ 8 by omega);have hds := Wire.dig_sum (b := b.toNat) hz;have B4 : 128 ^ (i + 1) ≤ 9223372036854775808 := by rw [Nat.pow_succ];omega
   refine zc (zp (pU (.bool true) (ed (((i : Nat) : Int) < (9 : Int)) (by omega)) ?_));refine zn (zc (zt ?_));refine cw_skip (zq (zc (cw_block ?_)));refine zc (zp (pD (iv i) (iv i) ?_));refine zn (zc (zc (zp (pD (iv a) (iv i) ?_))));refine pU (iv ((a + i : Nat) : Int)) (ew (by omega) (by omega)) ?_;refine pD (.string s) (iv ((ByteArray.size s : Nat) : Int)) ?_;refine pU (.bool false) (en (((a + i : Nat) : Int) ≥ ((ByteArray.size s : Nat) : Int)) (by omega)) ?_;refine zn (zf ?_);refine cw_skip (zq (zc (zp (pD (.string s) (iv a) ?_))));refine pT (iv i) ?_;refine pU (iv ((a + i : Nat) : Int)) (ew (by omega) (by omega)) ?_;refine pU (.int .u8 ((UInt8.toNat b : Nat) : Int)) (ex_indexV rfl (by kernel_rfl) (by kernel_rfl) (ix_str (i := a + i) hb)) ?_;refine pT (.int .u8 ((UInt8.toNat b : Nat) : Int)) ?_;refine zn (cK [0,1,7,8,9,19] (fun L => ?_));refine zc (zp (pD (.int .u64 ((z : Nat) : Int)) (.int .u8 ((UInt8.toNat b : Nat) : Int)) ?_));refine pU (.int .u8 ((UInt8.toNat b % 128 : Nat) : Int)) (ex_binV (a := .int .u8 ((UInt8.toNat b : Nat) : Int)) (b := .int .u8 127) rfl (by kernel_rfl) (by kernel_rfl) eqG_and (and_8 (b := 127) (by omega) (by omega) (and_127 _))) ?_;refine pU (.int .u64 ((UInt8.toNat b % 128 : Nat) : Int)) (ev_wrapU (a := ((UInt8.toNat b % 128 : Nat) : Int)) (by kernel_rfl) (by omega) (by omega)) ?_;refine pT (iv i) ?_;refine pU (iv ((7 * i : Nat) : Int)) (ew (by omega) (by omega)) ?_;refine pU (.int .u64 ((UInt8.toNat b % 128 * 128 ^ i : Nat) : Int)) (ex_binV (a := .int .u64 ((UInt8.toNat b % 128 : Nat) : Int)) (b := iv ((7 * i : Nat) : Int)) rfl (by kernel_rfl) (by kernel_rfl) eqG_shl (shl_64 (n := 7 * i) (by omega) (by rw [Wire.p128]) (by omega))) ?_;refine pU (.int .u64 ((z + UInt8.toNat b % 128 * 128 ^ i : Nat) : Int)) (ex_binV (a := .int .u64 ((z : Nat) : Int)) (b := .int .u64 ((UInt8.toNat b % 128 * 128 ^ i : Nat) : Int)) rfl (by kernel_rfl) (by kernel_rfl) eqG_or (or_64 (by omega) (by omega) (Wire.or_128i hz))) ?_;refine pT (.int .u64 ((z + UInt8.toNat b % 128 * 128 ^ i : Nat) : Int)) ?_;refine zn (zc (cw_seq ?_))
   by_cases hq : UInt8.toNat b < 128
   ·
    refine zp (pT (.int .u8 ((UInt8.toNat b : Nat) : Int)) ?_);refine pU (.bool false) (en (((UInt8.toNat b : Nat) : Int) ≥ (128 : Int)) (by omega)) ?_;refine zn (cK [0,1,7,8,9,19,42] (fun L => ?_));refine zf ?_;refine cw_skip (zq (zc (zp (pT (.int .u64 ((z + UInt8.toNat b % 128 * 128 ^ i : Nat) : Int)) ?_))));refine pU (.int .u64 ((((z + UInt8.toNat b % 128 * 128 ^ i) / 2 ^ 1 : Nat) : Int) : Int)) (ex_binV (a := .int .u64 ((z + UInt8.toNat b % 128 * 128 ^ i : Nat) : Int)) (b := .int .u64 1) rfl (by kernel_rfl) (by kernel_rfl) eqG_shr (shr_64 (n := 1) (by omega))) ?_;refine pU (iv ((((z + UInt8.toNat b % 128 * 128 ^ i) / 2 : Nat) : Int) : Int)) (ev_wrapI (a := (((z + UInt8.toNat b % 128 * 128 ^ i) / 2 : Nat) : Int)) (by kernel_rfl) (by omega) (by omega)) ?_;refine pT (.int .u64 ((z + UInt8.toNat b % 128 * 128 ^ i : Nat) : Int)) ?_;refine pU (.int .u64 ((((z + UInt8.toNat b % 128 * 128 ^ i) % 2 : Nat) : Int) : Int)) (ex_binV (a := .int .u64 ((z + UInt8.toNat b % 128 * 128 ^ i : Nat) : Int)) (b := .int .u64 1) rfl (by kernel_rfl) (by kernel_rfl) eqG_and (and_64 (b := 1) (by omega) (by omega) (and_1 _))) ?_;refine pU (iv ((((z + UInt8.toNat b % 128 * 128 ^ i) % 2 : Nat) : Int) : Int)) (ev_wrapI (a := (((z + UInt8.toNat b % 128 * 128 ^ i) % 2 : Nat) : Int)) (by kernel_rfl) (by omega) (by omega)) ?_;refine pU (iv (-((((z + UInt8.toNat b % 128 * 128 ^ i) % 2 : Nat)) : Int) : Int)) (ev_int (ev_wrapI (a := 0 - (((z + UInt8.toNat b % 128 * 128 ^ i) % 2 : Nat) : Int)) (by kernel_rfl) (by omega) (by omega)) (by omega)) ?_;refine pU (iv (Wire.uz (z + UInt8.toNat b % 128 * 128 ^ i) : Int)) (ex_binV (a := iv ((((z + UInt8.toNat b % 128 * 128 ^ i) / 2 : Nat)) : Int)) (b := iv (-((((z + UInt8.toNat b % 128 * 128 ^ i) % 2 : Nat)) : Int))) rfl (by kernel_rfl) (by kernel_rfl) eqG_xor (xor_sign (by omega))) ?_;refine pT (iv (Wire.uz (z + UInt8.toNat b % 128 * 128 ^ i) : Int)) ?_;refine zn (cK [1,8,9,10] (fun L => ?_));refine zc (cw_seq ?_)
    by_cases B0 : UInt8.toNat b = 0
    ·
     by_cases B2 : 0 < i
     ·
      have hno : Wire.rdI (Wire.bytes s) a = none := Wire.rd_none (by rw [hsc]; exact Wire.scan_zero hb B0 B2);refine zp (pT (.int .u8 ((UInt8.toNat b : Nat) : Int)) ?_);refine pU (.bool true) (eE ((UInt8.toNat b : Nat) : Int) (0 : Int) (by omega)) ?_;refine pD (.bool true) (iv i) ?_;refine pU (.bool true) (ed (((i : Nat) : Int) > (0 : Int)) (by omega)) ?_;refine pD (.bool true) (.bool true) ?_;refine pK ?_;refine pK ?_;refine pT (.bool true) ?_;refine zn (zt ?_);refine cw_exit (qw_then_exit (qw_block_on (by decide) ?_));refine qw_then_exit (qw_then_exit (qw_block_out (zq (zc (zp (pD (iv 0) (iv 0) ?_))))));refine pT (iv 10) ?_;refine zn (cK [4,5,6] (fun L => ?_));refine cw_ret (qw_ret [iv 0, iv 0, iv 10] rfl ⟨(by kernel_rfl), (by kernel_rfl), (by kernel_rfl), trivial⟩ ?_);exact ⟨_, _, _, rfl, by rw [hno]; exact ⟨rfl, rfl, rfl⟩, hE⟩
     ·
      have hnz : ¬ (UInt8.toNat b = 0 ∧ 0 < i) := fun h => B2 h.2
      have hls : Wire.scan (Wire.bytes s) a 9 0 0 = some (z + UInt8.toNat b % 128 * 128 ^ i, i) := by rw [hsc];exact Wire.scan_last hb hq hnz
      by_cases hN : z + UInt8.toNat b % 128 * 128 ^ i < 9223372036854775807
      ·
       have hye := Wire.rd_some hls hN;refine zp (pT (.int .u8 ((UInt8.toNat b : Nat) : Int)) ?_);refine pU (.bool true) (eE ((UInt8.toNat b : Nat) : Int) (0 : Int) (by omega)) ?_;refine pD (.bool true) (iv i) ?_;refine pU (.bool false) (en (((i : Nat) : Int) > (0 : Int)) (by omega)) ?_;refine pD (.bool false) (.bool false) ?_;refine pT (iv (Wire.uz (z + UInt8.toNat b % 128 * 128 ^ i) : Int)) ?_;refine pU (.bool false) (en ((Wire.uz (z + UInt8.toNat b % 128 * 128 ^ i) : Int) < (-4611686018427387903 : Int)) (Wire.uz_lo hN)) ?_;refine pT (.bool false) ?_;refine zn (zf ?_);refine cw_skip (zq (zc (zp (pD (iv (Wire.uz (z + UInt8.toNat b % 128 * 128 ^ i) : Int)) (iv a) ?_))));refine pT (iv i) ?_;refine pU (iv ((a + i : Nat) : Int)) (ew (by omega) (by omega)) ?_;refine pU (iv ((((a + i) + 1 : Nat) : Int) : Int)) (ew (by omega) (by omega)) ?_;refine pD (iv (Wire.uz (z + UInt8.toNat b % 128 * 128 ^ i) : Int)) (iv ((((a + i) + 1 : Nat) : Int) : Int)) ?_;refine pT (iv 0) ?_;refine zn (cK [4,5,6] (fun L => ?_));refine cw_ret (qw_block_ret (qw_then_ret (qw_then_ret (qw_block_ret (qw_then_ret (qw_ret [iv (Wire.uz (z + UInt8.toNat b % 128 * 128 ^ i) : Int), iv ((((a + i) + 1 : Nat) : Int) : Int), iv 0] rfl ⟨(by kernel_rfl), (by kernel_rfl), (by kernel_rfl), trivial⟩ ?_))))));exact ⟨_, _, _, rfl, by rw [hye]; exact ⟨rfl, rfl, rfl⟩, hE⟩
      ·
       have hno : Wire.rdI (Wire.bytes s) a = none := Wire.rd_big hls hN;refine zp (pT (.int .u8 ((UInt8.toNat b : Nat) : Int)) ?_);refine pU (.bool true) (eE ((UInt8.toNat b : Nat) : Int) (0 : Int) (by omega)) ?_;refine pD (.bool true) (iv i) ?_;refine pU (.bool false) (en (((i : Nat) : Int) > (0 : Int)) (by omega)) ?_;refine pD (.bool false) (.bool false) ?_;refine pT (iv (Wire.uz (z + UInt8.toNat b % 128 * 128 ^ i) : Int)) ?_;refine pU (.bool true) (ed ((Wire.uz (z + UInt8.toNat b % 128 * 128 ^ i) : Int) < (-4611686018427387903 : Int)) (Wire.uz_lo' hN (by omega))) ?_;refine pT (.bool true) ?_;refine zn (zt ?_);refine cw_exit (qw_then_exit (qw_block_on (by decide) ?_));refine qw_then_exit (qw_then_exit (qw_block_out (zq (zc (zp (pD (iv 0) (iv 0) ?_))))));refine pT (iv 10) ?_;refine zn (cK [4,5,6] (fun L => ?_));refine cw_ret (qw_ret [iv 0, iv 0, iv 10] rfl ⟨(by kernel_rfl), (by kernel_rfl), (by kernel_rfl), trivial⟩ ?_);exact ⟨_, _, _, rfl, by rw [hno]; exact ⟨rfl, rfl, rfl⟩, hE⟩
    ·
     have hnz : ¬ (UInt8.toNat b = 0 ∧ 0 < i) := fun h => B0 h.1
     have hls : Wire.scan (Wire.bytes s) a 9 0 0 = some (z + UInt8.toNat b % 128 * 128 ^ i, i) := by rw [hsc];exact Wire.scan_last hb hq hnz
     by_cases hN : z + UInt8.toNat b % 128 * 128 ^ i < 9223372036854775807
     ·
      have hye := Wire.rd_some hls hN;refine zp (pT (.int .u8 ((UInt8.toNat b : Nat) : Int)) ?_);refine pU (.bool false) (eN ((UInt8.toNat b : Nat) : Int) (0 : Int) (by omega)) ?_;refine pT (.bool false) ?_;refine pK ?_;refine pK ?_;refine pD (.bool false) (.bool false) ?_;refine pT (iv (Wire.uz (z + UInt8.toNat b % 128 * 128 ^ i) : Int)) ?_;refine pU (.bool false) (en ((Wire.uz (z + UInt8.toNat b % 128 * 128 ^ i) : Int) < (-4611686018427387903 : Int)) (Wire.uz_lo hN)) ?_;refine pT (.bool false) ?_;refine zn (zf ?_);refine cw_skip (zq (zc (zp (pD (iv (Wire.uz (z + UInt8.toNat b % 128 * 128 ^ i) : Int)) (iv a) ?_))));refine pT (iv i) ?_;refine pU (iv ((a + i : Nat) : Int)) (ew (by omega) (by omega)) ?_;refine pU (iv ((((a + i) + 1 : Nat) : Int) : Int)) (ew (by omega) (by omega)) ?_;refine pD (iv (Wire.uz (z + UInt8.toNat b % 128 * 128 ^ i) : Int)) (iv ((((a + i) + 1 : Nat) : Int) : Int)) ?_;refine pT (iv 0) ?_;refine zn (cK [4,5,6] (fun L => ?_));refine cw_ret (qw_block_ret (qw_then_ret (qw_then_ret (qw_block_ret (qw_then_ret (qw_ret [iv (Wire.uz (z + UInt8.toNat b % 128 * 128 ^ i) : Int), iv ((((a + i) + 1 : Nat) : Int) : Int), iv 0] rfl ⟨(by kernel_rfl), (by kernel_rfl), (by kernel_rfl), trivial⟩ ?_))))));exact ⟨_, _, _, rfl, by rw [hye]; exact ⟨rfl, rfl, rfl⟩, hE⟩
     ·
      have hno : Wire.rdI (Wire.bytes s) a = none := Wire.rd_big hls hN;refine zp (pT (.int .u8 ((UInt8.toNat b : Nat) : Int)) ?_);refine pU (.bool false) (eN ((UInt8.toNat b : Nat) : Int) (0 : Int) (by omega)) ?_;refine pT (.bool false) ?_;refine pK ?_;refine pK ?_;refine pD (.bool false) (.bool false) ?_;refine pT (iv (Wire.uz (z + UInt8.toNat b % 128 * 128 ^ i) : Int)) ?_;refine pU (.bool true) (ed ((Wire.uz (z + UInt8.toNat b % 128 * 128 ^ i) : Int) < (-4611686018427387903 : Int)) (Wire.uz_lo' hN (by omega))) ?_;refine pT (.bool true) ?_;refine zn (zt ?_);refine cw_exit (qw_then_exit (qw_block_on (by decide) ?_));refine qw_then_exit (qw_then_exit (qw_block_out (zq (zc (zp (pD (iv 0) (iv 0) ?_))))));refine pT (iv 10) ?_;refine zn (cK [4,5,6] (fun L => ?_));refine cw_ret (qw_ret [iv 0, iv 0, iv 10] rfl ⟨(by kernel_rfl), (by kernel_rfl), (by kernel_rfl), trivial⟩ ?_);exact ⟨_, _, _, rfl, by rw [hno]; exact ⟨rfl, rfl, rfl⟩, hE⟩
   ·
    refine zp (pT (.int .u8 ((UInt8.toNat b : Nat) : Int)) ?_);refine pU (.bool true) (ed (((UInt8.toNat b : Nat) : Int) ≥ (128 : Int)) (by omega)) ?_;refine zn (cK [0,1,7,8,9,19,42] (fun L => ?_));refine zt ?_;refine cw_exit (qw_then_exit (qw_block_out (zq (zp (pU (iv ((i + 1 : Nat) : Int)) (ew (by omega) (by omega)) ?_)))));refine pT (iv ((i + 1 : Nat) : Int)) ?_;refine pl_nil (qw_round [0, 1, 7, 19] (ws' := [(0, .string s), (1, iv a), (7, .int .u64 ((z + UInt8.toNat b % 128 * 128 ^ i : Nat) : Int)), (19, iv ((i + 1 : Nat) : Int))]) (by kernel_rfl) _ ?_ ⟨(i + 1), (z + UInt8.toNat b % 128 * 128 ^ i), rfl, rfl, B3, hE, by omega, hds, (by rw [hsc, Wire.scan_more hb hq, show 9 - (i + 1) = k by omega])⟩);omega
  ·
   have hno : Wire.rdI (Wire.bytes s) a = none := Wire.rd_none (by rw [hsc]; exact Wire.scan_out (Wire.get_none (by omega)));refine zc (zp (pU (.bool true) (ed (((i : Nat) : Int) < (9 : Int)) (by omega)) ?_));refine zn (zc (zt ?_));refine cw_skip (zq (zc (cw_block ?_)));refine zc (zp (pD (iv i) (iv i) ?_));refine zn (zc (zc (zp (pD (iv a) (iv i) ?_))));refine pU (iv ((a + i : Nat) : Int)) (ew (by omega) (by omega)) ?_;refine pD (.string s) (iv ((ByteArray.size s : Nat) : Int)) ?_;refine pU (.bool true) (ed (((a + i : Nat) : Int) ≥ ((ByteArray.size s : Nat) : Int)) (by omega)) ?_;refine zn (zt ?_);refine cw_exit (qw_then_exit (qw_block_on (by decide) ?_));refine qw_then_exit (qw_then_exit (qw_block_out (zq (zc (zp (pD (iv 0) (iv 0) ?_))))));refine pT (iv 10) ?_;refine zn (cK [4,5,6] (fun L => ?_));refine cw_ret (qw_ret [iv 0, iv 0, iv 10] rfl ⟨(by kernel_rfl), (by kernel_rfl), (by kernel_rfl), trivial⟩ ?_);exact ⟨_, _, _, rfl, by rw [hno]; exact ⟨rfl, rfl, rfl⟩, hE⟩
 ·
  have hno : Wire.rdI (Wire.bytes s) a = none := Wire.rd_none (by rw [hsc, show 9 - i = 0 by omega]; rfl);refine zc (zp (pU (.bool false) (en (((i : Nat) : Int) < (9 : Int)) (by omega)) ?_));refine zn (zc (zf ?_));refine cw_exit (qw_then_exit (qw_then_exit (qw_block_out (zq (zc (zp (pD (iv 0) (iv 0) ?_)))))));refine pT (iv 10) ?_;refine zn (cw_ret (qw_ret [iv 0, iv 0, iv 10] rfl ⟨(by kernel_rfl), (by kernel_rfl), (by kernel_rfl), trivial⟩ ?_));exact ⟨_, _, _, rfl, by rw [hno]; exact ⟨rfl, rfl, rfl⟩, hE⟩
theorem Int_y {s : ByteArray} {a nx : Nat} {n : Int} (w : World) (hs : s.size ≤ 1000000) (ha : a ≤ s.size) (h : Wire.rdI (Wire.bytes s) a = some (n, nx)) : Calls Tryz.prog 74 #[.string s, .int .i64 ((a : Nat) : Int)] w fun e w' => e = .returned (.tuple #[.int .i64 n, .int .i64 ((nx : Nat) : Int), .int .i64 0]) ∧ Ext w w' :=
 (Int_c w hs ha).mono fun _ _ ⟨v, m, er, he, hO, hE⟩ => by
  rw [h] at hO; obtain ⟨rfl, rfl, rfl⟩ := hO; exact ⟨he, hE⟩
theorem Int_n {s : ByteArray} {a : Nat} (w : World) (hs : s.size ≤ 1000000) (ha : a ≤ s.size) (h : Wire.rdI (Wire.bytes s) a = none) : Calls Tryz.prog 74 #[.string s, .int .i64 ((a : Nat) : Int)] w fun e w' => e = .returned (.tuple #[.int .i64 0, .int .i64 0, .int .i64 10]) ∧ Ext w w' :=
 (Int_c w hs ha).mono fun _ _ ⟨v, m, er, he, hO, hE⟩ => by
  rw [h] at hO; obtain ⟨rfl, rfl, rfl⟩ := hO; exact ⟨he, hE⟩
theorem String_c {s : ByteArray} {a : Nat} (w : World) (hs : s.size ≤ 1000000) (ha : a ≤ s.size) : Calls Tryz.prog 75 #[.string s, iv a] w fun e w' => ∃ v nx er, e = .returned (.tuple #[.string v, iv nx, iv er]) ∧ OptS (Wire.rdS s a) v nx er ∧ Ext w w' := by
 refine calls_cw 43 [(1, iv a), (0, .string s)] Tryz.func75 rfl Tryz.ntmps75 (by kernel_rfl) (by kernel_rfl) (fun L => ?_);have hE := Ext.refl w;refine zc (zp (pD (.string (⟨#[]⟩)) (iv 0) ?_));refine pT (iv 0) ?_;refine zn (cw_seq ?_);rcases ho : Wire.rdI (Wire.bytes s) a with _ | ⟨n, nx⟩
 ·
  refine zp (pD (.string s) (iv a) ?_);refine pS (sc 74 #[.string s, iv a] ((Int_n _ hs ha ho).mono ?_));rintro e w1 ⟨rfl, hb⟩;replace hE := hE.trans hb;have B3 := hb.size;refine ⟨_, rfl, pD (.tuple #[iv 0, iv 0, iv 10]) (iv 0) ?_⟩;refine pD (iv 0) (iv 10) ?_;refine pD (iv 0) (iv 0) ?_;refine pT (iv 10) ?_;refine zn (cK [0,7,8,9] (fun L => ?_));refine zc (zc (zp (pD (iv 10) (.bool true) ?_)));refine zn (zt ?_);refine zc (zp (pD (iv 10) (.string (⟨#[]⟩)) ?_));refine pD (iv 0) (iv 10) ?_;refine zn (cw_ret (qw_then_ret (qw_ret [.string (⟨#[]⟩), iv 0, iv 10] rfl ⟨(by kernel_rfl), (by kernel_rfl), (by kernel_rfl), trivial⟩ ?_)));exact ⟨_, _, _, rfl, by rw [Wire.rdS_none ho]; exact ⟨rfl, rfl, rfl⟩, hE⟩
 ·
  obtain ⟨B2, B0, _, _⟩ := Wire.rdI_is ho;rw [Wire.bytes_len] at B0;refine zp (pD (.string s) (iv a) ?_);refine pS (sc 74 #[.string s, iv a] ((Int_y _ hs ha ho).mono ?_));rintro e w3 ⟨rfl, hb⟩;replace hE := hE.trans hb;have B4 := hb.size;refine ⟨_, rfl, pD (.tuple #[iv n, iv nx, iv 0]) (iv n) ?_⟩;refine pD (iv nx) (iv 0) ?_;refine pD (iv n) (iv nx) ?_;refine pT (iv 0) ?_;refine zn (cK [0,7,8,9] (fun L => ?_));refine zc (zc (zp (pD (iv 0) (.bool false) ?_)));refine zn (zf ?_);refine cw_skip (zq (zc (cw_seq ?_)))
  by_cases h1 : n < 0
  ·
   have hbad := Wire.rdS_bad ho (by omega);refine zp (pT (iv n) ?_);refine pU (.bool true) (ed ((n : Int) < (0 : Int)) (by omega)) ?_;refine pT (.bool true) ?_;refine pK ?_;refine pK ?_;refine pD (.bool true) (.bool true) ?_;refine pK ?_;refine pK ?_;refine pK ?_;refine pK ?_;refine pK ?_;refine pK ?_;refine pT (.bool true) ?_;refine zn (cK [0,7,8,33] (fun L => ?_));refine zt ?_;refine zc (zp (pD (.string (⟨#[]⟩)) (iv 0) ?_));refine pT (iv 10) ?_;refine zn (cw_ret (qw_then_ret (qw_ret [.string (⟨#[]⟩), iv 0, iv 10] rfl ⟨(by kernel_rfl), (by kernel_rfl), (by kernel_rfl), trivial⟩ ?_)));exact ⟨_, _, _, rfl, by rw [hbad]; exact ⟨rfl, rfl, rfl⟩, hE⟩
  ·
   by_cases h2 : n > 65536
   ·
    have hbad := Wire.rdS_bad ho (by omega);refine zp (pT (iv n) ?_);refine pU (.bool false) (en ((n : Int) < (0 : Int)) (by omega)) ?_;refine pD (.bool false) (iv n) ?_;refine pU (.bool true) (ed ((n : Int) > (65536 : Int)) (by omega)) ?_;refine pD (.bool true) (.bool true) ?_;refine pK ?_;refine pK ?_;refine pK ?_;refine pK ?_;refine pK ?_;refine pK ?_;refine pT (.bool true) ?_;refine zn (cK [0,7,8,33] (fun L => ?_));refine zt ?_;refine zc (zp (pD (.string (⟨#[]⟩)) (iv 0) ?_));refine pT (iv 10) ?_;refine zn (cw_ret (qw_then_ret (qw_ret [.string (⟨#[]⟩), iv 0, iv 10] rfl ⟨(by kernel_rfl), (by kernel_rfl), (by kernel_rfl), trivial⟩ ?_)));exact ⟨_, _, _, rfl, by rw [hbad]; exact ⟨rfl, rfl, rfl⟩, hE⟩
   ·
    by_cases h3 : n > (s.size : Int) - nx
    ·
     have hbad := Wire.rdS_bad ho (by omega);refine zp (pT (iv n) ?_);refine pU (.bool false) (en ((n : Int) < (0 : Int)) (by omega)) ?_;refine pD (.bool false) (iv n) ?_;refine pU (.bool false) (en ((n : Int) > (65536 : Int)) (by omega)) ?_;refine pD (.bool false) (.bool false) ?_;refine pD (iv n) (.string s) ?_;refine pD (iv ((ByteArray.size s : Nat) : Int)) (iv nx) ?_;refine pU (iv ((((ByteArray.size s : Nat) : Int)) - (((nx : Nat) : Int)) : Int)) (ew (by omega) (by omega)) ?_;refine pU (.bool true) (ed ((n : Int) > ((((ByteArray.size s : Nat) : Int)) - (((nx : Nat) : Int)) : Int)) (by omega)) ?_;refine pT (.bool true) ?_;refine zn (cK [0,7,8,33] (fun L => ?_));refine zt ?_;refine zc (zp (pD (.string (⟨#[]⟩)) (iv 0) ?_));refine pT (iv 10) ?_;refine zn (cw_ret (qw_then_ret (qw_ret [.string (⟨#[]⟩), iv 0, iv 10] rfl ⟨(by kernel_rfl), (by kernel_rfl), (by kernel_rfl), trivial⟩ ?_)));exact ⟨_, _, _, rfl, by rw [hbad]; exact ⟨rfl, rfl, rfl⟩, hE⟩
    ·
     obtain ⟨m, rfl⟩ := Int.eq_ofNat_of_zero_le (show 0 ≤ n by omega);have hgood := Wire.rdS_some ho (by omega);refine zp (pT (iv m) ?_);refine pU (.bool false) (en (((m : Nat) : Int) < (0 : Int)) (by omega)) ?_;refine pD (.bool false) (iv m) ?_;refine pU (.bool false) (en (((m : Nat) : Int) > (65536 : Int)) (by omega)) ?_;refine pD (.bool false) (.bool false) ?_;refine pD (iv m) (.string s) ?_;refine pD (iv ((ByteArray.size s : Nat) : Int)) (iv nx) ?_;refine pU (iv ((((ByteArray.size s : Nat) : Int)) - (((nx : Nat) : Int)) : Int)) (ew (by omega) (by omega)) ?_;refine pU (.bool false) (en (((m : Nat) : Int) > ((((ByteArray.size s : Nat) : Int)) - (((nx : Nat) : Int)) : Int)) (by omega)) ?_;refine pT (.bool false) ?_;refine zn (cK [0,7,8,33] (fun L => ?_));refine zf ?_;refine cw_skip (zq (zc (zp (pD (.string s) (iv nx) ?_))));refine pD (iv nx) (iv m) ?_;refine pU (iv ((nx + m : Nat) : Int)) (ew (by omega) (by omega)) ?_;refine pU (.string (ByteArray.extract s nx (nx + m))) (ex_slice (p := .string s) rfl (by kernel_rfl) (by kernel_rfl) (by kernel_rfl) (by kernel_rfl) (slS_11 (i := nx) (j := nx + m) (by omega) (by omega))) ?_;refine pD (iv nx) (iv m) ?_;refine pU (iv ((nx + m : Nat) : Int)) (ew (by omega) (by omega)) ?_;refine pD (.string (ByteArray.extract s nx (nx + m))) (iv ((nx + m : Nat) : Int)) ?_;refine pT (iv 0) ?_;refine zn (cK [4,5,6] (fun L => ?_));refine cw_ret (qw_ret [.string (ByteArray.extract s nx (nx + m)), iv ((nx + m : Nat) : Int), iv 0] rfl ⟨(by kernel_rfl), (by kernel_rfl), (by kernel_rfl), trivial⟩ ?_);exact ⟨_, _, _, rfl, by rw [hgood]; exact ⟨rfl, rfl, rfl⟩, hE⟩
theorem String_y {s x : ByteArray} {a nx : Nat} (w : World) (hs : s.size ≤ 1000000) (ha : a ≤ s.size) (h : Wire.rdS s a = some (x, nx)) : Calls Tryz.prog 75 #[.string s, .int .i64 ((a : Nat) : Int)] w fun e w' => e = .returned (.tuple #[.string x, .int .i64 ((nx : Nat) : Int), .int .i64 0]) ∧ Ext w w' :=
 (String_c w hs ha).mono fun _ _ ⟨v, m, er, he, hO, hE⟩ => by
  rw [h] at hO; obtain ⟨rfl, rfl, rfl⟩ := hO; exact ⟨he, hE⟩
theorem String_n {s : ByteArray} {a : Nat} (w : World) (hs : s.size ≤ 1000000) (ha : a ≤ s.size) (h : Wire.rdS s a = none) : Calls Tryz.prog 75 #[.string s, .int .i64 ((a : Nat) : Int)] w fun e w' => e = .returned (.tuple #[.string ⟨#[]⟩, .int .i64 0, .int .i64 10]) ∧ Ext w w' :=
 (String_c w hs ha).mono fun _ _ ⟨v, m, er, he, hO, hE⟩ => by
  rw [h] at hO; obtain ⟨rfl, rfl, rfl⟩ := hO; exact ⟨he, hE⟩
end Go.Proofs.YtfmoabgjaclkpaaGreatDoor

namespace Go.Proofs.YtfmoabgjaclkpaaGreatDoor
set_option maxRecDepth 1000000
set_option maxHeartbeats 4000000
set_option synthInstance.maxHeartbeats 0
set_option synthInstance.maxSize 9999
open Go.RowKit
namespace Rep
def fld (x : Rec) : Nat → Int
 | 0 => x.c
 | 1 => x.n
 | 2 => x.t
 | 3 => x.o + 1
 | 4 => x.w
 | _ => x.k
def encP (x : Rec) : Nat → ByteArray
 | 0 => ⟨#[]⟩
 | k + 1 => encP x k ++ Wire.encI (fld x k)
def encR (x : Rec) : ByteArray := encP x 6 ++ Wire.encS x.x
theorem okR_is {x : Rec} (h : okR x = true) : ((x.o = -1 ∧ x.w = 0) ∨ (0 ≤ x.o ∧ x.o ≤ 15) ∧ (1 ≤ x.w ∧ x.w ≤ 80) ∧ ¬ (x.o = x.c ∧ x.w = x.n)) ∧ (0 ≤ x.c ∧ x.c ≤ 15) ∧ (1 ≤ x.n ∧ x.n ≤ 80) ∧ (0 ≤ x.t ∧ x.t ≤ 1000000) ∧ (0 ≤ x.k ∧ x.k ≤ 15) ∧ ByteArray.size x.x ≤ 4000 := of_decide_eq_true h
theorem fld_ok {x : Rec} (h : okR x = true) (i : Nat) : 0 ≤ fld x i ∧ fld x i ≤ 1000001 := by
 have := okR_is h
 unfold fld; split <;> omega
theorem encP_size (x : Rec) : ∀ i, (encP x i).size ≤ 10 * i
 | 0 => Nat.le_refl _
 | i + 1 => by
  have h1 := encP_size x i; have h2 := Wire.encI_size (fld x i)
  unfold encP; rw [ByteArray.size_append]; omega
def decP (s : List UInt8) : Nat → Option ((Nat → Int) × Nat)
 | 0 => some (fun _ => 0, 0)
 | k + 1 => match decP s k with
  | none => none
  | some (f, a) => match Wire.rdI s a with
   | none => none
   | some (n, nx) => some (fun j => if j = k then n else f j, nx)
theorem decP_bad {s : List UInt8} {k : Nat} {f : Nat → Int} {a : Nat} (h : decP s k = some (f, a)) (hr : Wire.rdI s a = none) : decP s (k + 1) = none := by unfold decP; rw [h]; dsimp only; rw [hr]
theorem decP_next {s : List UInt8} {k : Nat} {f : Nat → Int} {a : Nat} {n : Int} {nx : Nat} (h : decP s k = some (f, a)) (hr : Wire.rdI s a = some (n, nx)) : decP s (k + 1) = some (fun j => if j = k then n else f j, nx) := by
 rw [decP, h]; dsimp only; rw [hr]
theorem decP_none {s : List UInt8} {k : Nat} (h : decP s k = none) : ∀ j, decP s (k + j) = none
 | 0 => h
 | j + 1 => by rw [← Nat.add_assoc, decP, decP_none h j]
theorem decP_fits {s : List UInt8} : ∀ {k : Nat} {f : Nat → Int} {a : Nat}, decP s k = some (f, a) → ∀ j, Wire.fits (f j)
 | 0, f, a, h, j => by cases h; unfold Wire.fits; simp
 | k + 1, f, a, h, j => by
  unfold decP at h
  cases h1 : decP s k with
  | none => rw [h1] at h; cases h
  | some p =>
   obtain ⟨f1, a1⟩ := p
   rw [h1] at h; dsimp only at h
   cases h2 : Wire.rdI s a1 with
   | none => rw [h2] at h; cases h
   | some q =>
    obtain ⟨n, nx⟩ := q
    rw [h2] at h; dsimp only at h
    cases h
    dsimp only
    split
    · exact (Wire.rdI_is h2).2.2.2
    · exact decP_fits h1 j
def decT (s : ByteArray) (f : Nat → Int) (a : Nat) : Option Rec := match Wire.rdS s a with
 | none => none
 | some (x, e) => if e = s.size ∧ okR ⟨f 0, f 1, f 2, f 3 - 1, f 4, f 5, x⟩ = true then some ⟨f 0, f 1, f 2, f 3 - 1, f 4, f 5, x⟩ else none
def decR (s : ByteArray) : Option Rec := match decP (Wire.bytes s) 6 with
 | none => none
 | some (f, a) => decT s f a
theorem decR_none {s : ByteArray} {k : Nat} (h : decP (Wire.bytes s) k = none) (hk : k ≤ 6) : decR s = none := by
 unfold decR
 have := decP_none h (6 - k)
 rw [show k + (6 - k) = 6 by omega] at this
 rw [this]
theorem decR_at {s : ByteArray} {f : Nat → Int} {a : Nat} (h : decP (Wire.bytes s) 6 = some (f, a)) : decR s = decT s f a := by unfold decR; rw [h]
theorem decT_none {s : ByteArray} {f : Nat → Int} {a : Nat} (h : Wire.rdS s a = none) : decT s f a = none := by unfold decT; rw [h]
theorem decT_bad {s x : ByteArray} {f : Nat → Int} {a e : Nat} (h : Wire.rdS s a = some (x, e)) (hb : ¬ (e = s.size ∧ okR ⟨f 0, f 1, f 2, f 3 - 1, f 4, f 5, x⟩ = true)) : decT s f a = none := by unfold decT; rw [h]; exact if_neg hb
theorem decT_ok {s x : ByteArray} {f : Nat → Int} {a e : Nat} (h : Wire.rdS s a = some (x, e)) (hb : e = s.size ∧ okR ⟨f 0, f 1, f 2, f 3 - 1, f 4, f 5, x⟩ = true) : decT s f a = some ⟨f 0, f 1, f 2, f 3 - 1, f 4, f 5, x⟩ := by unfold decT; rw [h]; exact if_pos hb
end Rep
theorem ix6 {w : World} {x : Rec} {i : Nat} (hi : i < 6) : (Instr.index 90 (.agg #[.int .i64 x.c, .int .i64 x.n, .int .i64 x.t, .int .i64 (x.o + 1), .int .i64 x.w, .int .i64 x.k]) (.int .i64 i)).run Tryz.prog w = .ok (.int .i64 (Rep.fld x i)) w := by
 match i, hi with
 | 0, _ => show _ = _; kernel_rfl
 | 1, _ => show _ = _; kernel_rfl
 | 2, _ => show _ = _; kernel_rfl
 | 3, _ => show _ = _; kernel_rfl
 | 4, _ => show _ = _; kernel_rfl
 | 5, _ => show _ = _; kernel_rfl
 | _ + 6, h => omega
theorem ixp6 {w : World} {O i : Nat} (hi : i < 6) : (Instr.index 94 (.agg #[.pointer (some ⟨O, 0, none⟩), .pointer (some ⟨O, 1, none⟩), .pointer (some ⟨O, 2, none⟩), .pointer (some ⟨O, 3, none⟩), .pointer (some ⟨O, 4, none⟩), .pointer (some ⟨O, 5, none⟩)]) (.int .i64 i)).run Tryz.prog w = .ok (.pointer (some ⟨O, i, none⟩)) w := by
 match i, hi with
 | 0, _ => show _ = _; kernel_rfl
 | 1, _ => show _ = _; kernel_rfl
 | 2, _ => show _ = _; kernel_rfl
 | 3, _ => show _ = _; kernel_rfl
 | 4, _ => show _ = _; kernel_rfl
 | 5, _ => show _ = _; kernel_rfl
 | _ + 6, h => omega
structure Arr6 (w : World) (B : Nat) (f : Nat → Int) : Prop where
 at_ : ∀ k, k < 6 → BoxAt w B k (.int .i64 (f k))
theorem Arr6.ext {w X : World} {B : Nat} {f : Nat → Int} (h : Arr6 w B f) (e : Ext w X) : Arr6 X B f := ⟨fun k hk => BoxAt.ext e (h.at_ k hk)⟩
theorem Arr6.set {w X : World} {B i : Nat} {f : Nat → Int} {n : Int} (h : Arr6 w B f) (hv : BoxAt X B i (.int .i64 n)) (hk : ∀ j x, j ≠ i → BoxAt w B j x → BoxAt X B j x) : Arr6 X B fun j => if j = i then n else f j := ⟨fun j hj => by
 by_cases e : j = i
 · subst e; simpa using hv
 · simpa [e] using hk j _ e (h.at_ j hj)⟩
theorem Arr6.of {w : World} {B : Nat} (h0 : BoxAt w B 0 (.int .i64 0)) (h1 : BoxAt w B 1 (.int .i64 0)) (h2 : BoxAt w B 2 (.int .i64 0)) (h3 : BoxAt w B 3 (.int .i64 0)) (h4 : BoxAt w B 4 (.int .i64 0)) (h5 : BoxAt w B 5 (.int .i64 0)) : Arr6 w B fun _ => 0 := ⟨fun k hk => by
 match k, hk with
 | 0, _ => exact h0
 | 1, _ => exact h1
 | 2, _ => exact h2
 | 3, _ => exact h3
 | 4, _ => exact h4
 | 5, _ => exact h5
 | _ + 6, h => omega⟩
def OptD (o : Option Rec) (x : Rec) (er : Int) : Prop := match o with
 | none => x = Rec.zero ∧ er = 350
 | some y => x = y ∧ er = 0
theorem Encode_c {x : Rec} (w : World) (hRl : RootAt w) : Calls Tryz.prog 31 #[.agg #[iv x.c, iv x.n, iv x.t, iv x.o, iv x.w, iv x.k, .string x.x]] w fun e w' => ∃ s er, e = .returned (.tuple #[.string s, iv er]) ∧ ((Rep.okR x = true ∧ s = Rep.encR x ∧ er = 0) ∨ (Rep.okR x = false ∧ s = ⟨#[]⟩ ∧ er = 350)) ∧ Ext w w' := by
 refine calls_cw 53 [(0, .agg #[iv x.c, iv x.n, iv x.t, iv x.o, iv x.w, iv x.k, .string x.x])] Tryz.func31 rfl Tryz.ntmps31 (by kernel_rfl) (by kernel_rfl) (fun L => ?_);have hE := Ext.refl w;refine zc (zp (pS (sw 49 #[iv x.c, iv x.n, iv x.t, iv x.o, iv x.w, iv x.k, .string x.x] ?_)));intro O1 X2 Bh Bg hb hbx;have ⟨B0, B2, B3, B4, B7, B8, Ba⟩ := bq7 hbx;replace hE := hE.trans hb;have Bi := hb.size;have Bm := B0.lt;refine pD (.string (⟨#[]⟩)) (iv 0) ?_;refine zn (zc (cw_seq ?_));obtain ⟨q9, hok⟩ : ∃ q, Rep.okR x = q := ⟨_, rfl⟩
 cases q9
 ·
  refine zp (pU (.agg #[iv x.c, iv x.n, iv x.t, iv x.o, iv x.w, iv x.k, .string x.x]) (xl (ld49 (B0.1) (B2.1) (B3.1) (B4.1) (B7.1) (B8.1) (Ba.1))) ?_);refine pS (sc 50 #[.agg #[iv x.c, iv x.n, iv x.t, iv x.o, iv x.w, iv x.k, .string x.x]] ((formed_r x (r := false) _ (hRl.ext hE) hok).mono ?_));rintro e w5 ⟨rfl, hb⟩;refine mv7 hb hE B0 B2 B3 B4 B7 B8 fun hE B0 B2 B3 B4 B7 B8=>?_;replace Ba := Ba.x hb;have Bj := hb.size;refine ⟨_, rfl, pT (.bool true) ?_⟩;refine zn (zt ?_);refine zc (zp (pD (.string (⟨#[]⟩)) (iv 350) ?_));refine zn (cw_ret (qw_then_ret (qw_ret [.string (⟨#[]⟩), iv 350] rfl ⟨(by kernel_rfl), (by kernel_rfl), trivial⟩ ?_)));exact ⟨_, _, rfl, .inr ⟨hok, rfl, rfl⟩, hE⟩
 ·
  refine zp (pU (.agg #[iv x.c, iv x.n, iv x.t, iv x.o, iv x.w, iv x.k, .string x.x]) (xl (ld49 (B0.1) (B2.1) (B3.1) (B4.1) (B7.1) (B8.1) (Ba.1))) ?_);refine pS (sc 50 #[.agg #[iv x.c, iv x.n, iv x.t, iv x.o, iv x.w, iv x.k, .string x.x]] ((formed_r x (r := true) _ (hRl.ext hE) hok).mono ?_));rintro e w7 ⟨rfl, hb⟩;refine mv7 hb hE B0 B2 B3 B4 B7 B8 fun hE B0 B2 B3 B4 B7 B8=>?_;replace Ba := Ba.x hb;have Bk := hb.size;refine ⟨_, rfl, pT (.bool false) ?_⟩;refine zn (zf ?_);refine cw_skip (zq (zc (zp (pT (.string (⟨#[]⟩)) ?_))));refine zn (zc (cw_seq ?_));have hkk := Rep.okR_is hok;refine zp (pT (pw O1 0) ?_);refine pU (iv x.c) (xl (ld3 (B0.1))) ?_;refine pT (pw O1 1) ?_;refine pU (iv x.n) (xl (ld3 (B2.1))) ?_;refine pT (pw O1 2) ?_;refine pU (iv x.t) (xl (ld3 (B3.1))) ?_;refine pT (pw O1 3) ?_;refine pU (iv x.o) (xl (ld3 (B4.1))) ?_;refine pU (iv (x.o + 1 : Int)) (ew (by omega) (by omega)) ?_;refine pT (pw O1 4) ?_;refine pU (iv x.w) (xl (ld3 (B7.1))) ?_;refine pT (pw O1 5) ?_;refine pU (iv x.k) (xl (ld3 (B8.1))) ?_;refine pD (.agg #[iv x.c, iv x.n, iv x.t, iv (x.o + 1 : Int), iv x.w, iv x.k]) (iv 0) ?_;refine zn (cK [1,4,27,28] (fun L => ?_));refine cw_block ?_;have Bb := Ext.refl w7;refine cw_loop [1, 4, 27, 28] (fun ws' wr m => ∃ i : Nat, ws' = [(1, pw O1 0), (4, .string (Rep.encP x i)), (27, .agg #[iv x.c, iv x.n, iv x.t, iv (x.o + 1 : Int), iv x.w, iv x.k]), (28, iv i)] ∧ m = 6 - i ∧ w7.heap.size ≤ wr.heap.size ∧ Ext w wr ∧ Ext w7 wr ∧ i ≤ 6) (ws0 := [(1, pw O1 0), (4, .string (⟨#[]⟩)), (27, .agg #[iv x.c, iv x.n, iv x.t, iv (x.o + 1 : Int), iv x.w, iv x.k]), (28, iv 0)]) (by kernel_rfl) _ ⟨0, rfl, rfl, Nat.le_refl _, hE, Bb, Nat.zero_le _⟩ ?_;clear hE Bb;rintro Bn L ws Bo ⟨i, rfl, rfl, Bc, hE, Bb, hi⟩
  by_cases hlt : i < 6
  ·
   refine zc (zp (pU (.bool true) (ed (((i : Nat) : Int) < (6 : Int)) (by omega)) ?_));refine zn (zc (zt ?_));refine cw_skip (zq (zc (cw_block ?_)));refine zc (zp (pU (iv (Rep.fld x i : Int)) (ex_indexV rfl (by kernel_rfl) (by kernel_rfl) (ix6 (x := x) (i := i) (by omega))) ?_));refine pT (iv (Rep.fld x i : Int)) ?_;refine zn (zc (zp (pT (iv (Rep.fld x i : Int)) ?_)));have hfl := Rep.fld_ok hok i;refine pS (sc 70 #[iv (Rep.fld x i : Int)] ((PutInt_c (n := Rep.fld x i) _ (by omega) (by omega)).mono ?_));rintro e Bp ⟨rfl, hb⟩;refine mv2 hb hE Bb fun hE Bb=>?_;have Be := hb.size;refine ⟨_, rfl, pD (.tuple #[.string (Wire.encI (Rep.fld x i)), iv 0]) (.string (Wire.encI (Rep.fld x i))) ?_⟩;refine pD (iv 0) (.string (Wire.encI (Rep.fld x i))) ?_;refine pT (iv 0) ?_;refine zn (zc (zc (zp (pD (iv 0) (.bool false) ?_))));refine zn (cK [1,4,7,27,28,37] (fun L => ?_));refine zf ?_;refine cw_skip (zq (zp (pD (.string (Rep.encP x i)) (.string (Wire.encI (Rep.fld x i))) ?_)));refine pU (.string ((Rep.encP x i) ++ (Wire.encI (Rep.fld x i)))) (ex_binV (a := .string (Rep.encP x i)) (b := .string (Wire.encI (Rep.fld x i))) rfl (by kernel_rfl) (by kernel_rfl) eqG_str (bin_cat (by have h1 := Rep.encP_size x i; have h2 := Wire.encI_size (Rep.fld x i); omega))) ?_;refine pT (.string ((Rep.encP x i) ++ (Wire.encI (Rep.fld x i)))) ?_;refine pl_nil (qw_block (zq (zp (pU (iv ((i + 1 : Nat) : Int)) (ew (by omega) (by omega)) ?_))));refine pT (iv ((i + 1 : Nat) : Int)) ?_;refine pl_nil (zr [1, 4, 27, 28] _ ?_ ⟨(i + 1), rfl, rfl, (T Bc Be), hE, Bb, by omega⟩);omega
  ·
   obtain rfl : i = 6 := by omega
   refine zc (zp (pT (.bool false) ?_));refine zn (zc (zf ?_));refine cw_exit (qw_then_exit (qw_then_exit (qw_block_out (zq (zc (zp (pT (pw O1 6) ?_)))))));refine pU (.string x.x) (xl (ld9 (Ba.c Bb))) ?_;refine pS (sc 71 #[.string x.x] ((PutString_c (s := x.x) _ (by omega)).mono ?_));rintro e Bq ⟨rfl, hb⟩;replace hE := hE.trans hb;have Bf := hb.size;refine ⟨_, rfl, pD (.tuple #[.string (Wire.encS x.x), iv 0]) (.string (Wire.encS x.x)) ?_⟩;refine pD (iv 0) (.string (Wire.encS x.x)) ?_;refine pT (iv 0) ?_;refine zn (zc (zc (zp (pD (iv 0) (.bool false) ?_))));refine zn (cK [4,9,49] (fun L => ?_));refine zf ?_;refine cw_skip (zq (zc (zp (pD (.string (Rep.encP x 6)) (.string (Wire.encS x.x)) ?_))));refine pU (.string ((Rep.encP x 6) ++ (Wire.encS x.x))) (ex_binV (a := .string (Rep.encP x 6)) (b := .string (Wire.encS x.x)) rfl (by kernel_rfl) (by kernel_rfl) eqG_str (bin_cat (by have h1 := Rep.encP_size x 6; have h2 := Wire.encI_size ((ByteArray.size x.x : Nat) : Int); unfold Wire.encS; rw [ByteArray.size_append]; omega))) ?_;refine pD (.string ((Rep.encP x 6) ++ (Wire.encS x.x))) (iv 0) ?_;refine zn (cw_ret (qw_ret [.string ((Rep.encP x 6) ++ (Wire.encS x.x)), iv 0] rfl ⟨(by kernel_rfl), (by kernel_rfl), trivial⟩ ?_));exact ⟨_, _, rfl, .inl ⟨hok, rfl, rfl⟩, hE⟩
theorem Decode_c {s : ByteArray} (w : World) (hs : s.size ≤ 1000000) (hRl : RootAt w) : Calls Tryz.prog 35 #[.string s] w fun e w' => ∃ x er, e = .returned (.tuple #[Rec.val x, iv er]) ∧ OptD (Rep.decR s) x er ∧ Ext w w' := by
 refine calls_cw 58 [(0, .string s)] Tryz.func35 rfl Tryz.ntmps35 (by kernel_rfl) (by kernel_rfl) (fun L => ?_);have hE := Ext.refl w;refine zc (zp (pS (sw 49 #[iv 0, iv 0, iv 0, iv 0, iv 0, iv 0, .string (⟨#[]⟩)] ?_)));intro O1 X2 Bv D7 hb hbx;have ⟨B0, B2, B3, B4, B7, B8, Ba⟩ := bq7 hbx;replace hE := hE.trans hb;have C9 := hb.size;have Be := B0.lt;refine pT (iv 0) ?_;refine zn (zc (zp (pS (sw 49 #[iv 0, iv 0, iv 0, iv 0, iv 0, iv 0, .string (⟨#[]⟩)] ?_))));intro O5 X6 Bb D8 hb hbx;have ⟨Bu, Bx, By, Bz, C0, C1, C2⟩ := bq7 hbx;refine mv7 hb hE B0 B2 B3 B4 B7 B8 fun hE B0 B2 B3 B4 B7 B8=>?_;replace Ba := Ba.x hb;have Dg := hb.size;have Dh := Bu.lt;refine zn (zc (zp (pD (iv 0) (iv 0) ?_)));refine zn (zc (zc (zp (pD (pw O5 0) (pw O5 1) ?_))));refine pD (pw O5 2) (pw O5 3) ?_;refine pD (pw O5 4) (pw O5 5) ?_;refine pD (.agg #[pw O5 0, pw O5 1, pw O5 2, pw O5 3, pw O5 4, pw O5 5]) (iv 0) ?_;refine zn (cw_block ?_);refine cw_loop [0, 2, 4, 5, 15, 16] (fun ws' wr m => ∃ i : Nat, ∃ f : Nat → Int, ∃ a : Nat, ws' = [(0, .string s), (2, pw O1 0), (4, pw O5 0), (5, iv a), (15, .agg #[pw O5 0, pw O5 1, pw O5 2, pw O5 3, pw O5 4, pw O5 5]), (16, iv i)] ∧ m = 6 - i ∧ X6.heap.size ≤ wr.heap.size ∧ Ext w wr ∧ BoxAt wr O1 0 (iv 0) ∧ BoxAt wr O1 1 (iv 0) ∧ BoxAt wr O1 2 (iv 0) ∧ BoxAt wr O1 3 (iv 0) ∧ BoxAt wr O1 4 (iv 0) ∧ BoxAt wr O1 5 (iv 0) ∧ BoxAt wr O1 6 (.string (⟨#[]⟩)) ∧ Arr6 wr O5 f ∧ BoxAt wr O5 6 (.string (⟨#[]⟩)) ∧ i ≤ 6 ∧ a ≤ s.size ∧ Rep.decP (Wire.bytes s) i = some (f, a)) (ws0 := [(0, .string s), (2, pw O1 0), (4, pw O5 0), (5, iv 0), (15, .agg #[pw O5 0, pw O5 1, pw O5 2, pw O5 3, pw O5 4, pw O5 5]), (16, iv 0)]) (by kernel_rfl) _ ⟨0, (fun _ => 0), 0, rfl, rfl, Nat.le_refl _, hE, B0, B2, B3, B4, B7, B8, Ba, (Arr6.of Bu Bx By Bz C0 C1), C2, Nat.zero_le _, Nat.zero_le _, rfl⟩ ?_;clear B0 B2 B3 B4 B7 B8 Ba Bu Bx By Bz C0 C1 C2 hE;rintro Di L ws Cj ⟨i, f, a, rfl, rfl, D6, hE, B0, B2, B3, B4, B7, B8, Ba, hA, Bc, hi, ha, hdp⟩;have Bn := Ext.refl Cj
 by_cases hlt : i < 6
 ·
  rcases ho : Wire.rdI (Wire.bytes s) a with _ | ⟨n, nx⟩
  ·
   have hdn := Rep.decR_none (Rep.decP_bad hdp ho) (by omega);refine zc (zp (pU (.bool true) (ed (((i : Nat) : Int) < (6 : Int)) (by omega)) ?_));refine zn (zc (zt ?_));refine cw_skip (zq (zc (cw_block ?_)));refine zc (zp (pU (pw O5 i) (ex_indexV rfl (by kernel_rfl) (by kernel_rfl) (ixp6 (i := i) (by omega))) ?_));refine pT (pw O5 i) ?_;refine zn (zc (zp (pD (pw O5 i) (.string s) ?_)));refine pT (iv a) ?_;refine pS (sc 74 #[.string s, iv a] ((Int_n _ hs ha ho).mono ?_));rintro e D9 ⟨rfl, hb⟩;refine mv9 hb hE Bn B0 B2 B3 B4 B7 B8 Ba fun hE Bn B0 B2 B3 B4 B7 B8 Ba=>?_;replace Bc := Bc.x hb;have Cs := hb.size;refine ⟨_, rfl, pD (.tuple #[iv 0, iv 0, iv 10]) (iv 0) ?_⟩;refine pD (iv 0) (iv 10) ?_;refine pT (pw O5 i) ?_;have C6 := (hA.ext Bn);have C5 := Bc;have C3 := C6;have Bw := C3.at_ i (by omega);refine pP (zE O5 i (iv 0) (st3 Bw.1 Bw.2) Bw ?_);intro Ce ho Bg hk;have Cq := C3.set Bg hk;have C8 := hk 6 _ (by omega) C5;clear hk Bg Bw;replace hE := ho.ext hE (T C9 (Nat.le_of_eq Bb));have q9 := ho.bx O1 (by omega);replace B0 := q9 B0;replace B2 := q9 B2;replace B3 := q9 B3;replace B4 := q9 B4;replace B7 := q9 B7;replace B8 := q9 B8;replace Ba := q9 Ba;clear q9;have Ct := Nat.le_of_eq ho.size.symm;clear ho C5 C3;refine pD (iv 0) (iv 10) ?_;refine zn (cK [0,2,4,5,6,15,16] (fun L => ?_));refine zc (zp (pD (iv 10) (.bool true) ?_));refine zn (zt ?_);refine zc (zp (pT (.agg #[iv 0, iv 0, iv 0, iv 0, iv 0, iv 0, .string (⟨#[]⟩)]) ?_));refine pP (sn_setK7 (O := O1) (j := 0) (v0 := iv 0) (v1 := iv 0) (v2 := iv 0) (v3 := iv 0) (v4 := iv 0) (v5 := iv 0) (v6 := .string (⟨#[]⟩)) (xt (pw O1 0) (.agg #[iv 0, iv 0, iv 0, iv 0, iv 0, iv 0, .string (⟨#[]⟩)]) (st49 B0.1 B0.2 B2.1 B2.2 B3.1 B3.2 B4.1 B4.2 B7.1 B7.2 B8.1 B8.2 Ba.1 Ba.2)) B0 B2 B3 B4 B7 B8 Ba ?_);intro Ck ho B0 B2 B3 B4 B7 B8 Ba hk;replace hE := ho.ext hE (Nat.le_of_eq Bv);have Cu := Nat.le_of_eq ho.size.symm;clear ho hk;refine pT (iv 350) ?_;refine zn (cw_ret (qw_block_ret (qw_then_ret (qw_then_ret (qw_block_ret (qw_then_ret (qw_ret [.agg #[iv 0, iv 0, iv 0, iv 0, iv 0, iv 0, .string (⟨#[]⟩)], iv 350] rfl ⟨⟨_, by kernel_rfl, res_ld (ld49 (B0.1) (B2.1) (B3.1) (B4.1) (B7.1) (B8.1) (Ba.1))⟩, (by kernel_rfl), trivial⟩ ?_)))))));exact ⟨Rec.zero, _, rfl, by rw [hdn]; exact ⟨rfl, rfl⟩, hE⟩
  ·
   obtain ⟨Df, Cr, _, _⟩ := Wire.rdI_is ho;rw [Wire.bytes_len] at Cr;refine zc (zp (pU (.bool true) (ed (((i : Nat) : Int) < (6 : Int)) (by omega)) ?_));refine zn (zc (zt ?_));refine cw_skip (zq (zc (cw_block ?_)));refine zc (zp (pU (pw O5 i) (ex_indexV rfl (by kernel_rfl) (by kernel_rfl) (ixp6 (i := i) (by omega))) ?_));refine pT (pw O5 i) ?_;refine zn (zc (zp (pD (pw O5 i) (.string s) ?_)));refine pT (iv a) ?_;refine pS (sc 74 #[.string s, iv a] ((Int_y _ hs ha ho).mono ?_));rintro e Da ⟨rfl, hb⟩;refine mv9 hb hE Bn B0 B2 B3 B4 B7 B8 Ba fun hE Bn B0 B2 B3 B4 B7 B8 Ba=>?_;replace Bc := Bc.x hb;have Cc := hb.size;refine ⟨_, rfl, pD (.tuple #[iv n, iv nx, iv 0]) (iv n) ?_⟩;refine pD (iv nx) (iv 0) ?_;refine pT (pw O5 i) ?_;have C7 := (hA.ext Bn);have C5 := Bc;have C3 := C7;have Bw := C3.at_ i (by omega);refine pP (zE O5 i (iv n) (st3 Bw.1 Bw.2) Bw ?_);intro Cl ho Bg hk;have Ca := C3.set Bg hk;have Cb := hk 6 _ (by omega) C5;clear hk Bg Bw;replace hE := ho.ext hE (T C9 (Nat.le_of_eq Bb));have q9 := ho.bx O1 (by omega);replace B0 := q9 B0;replace B2 := q9 B2;replace B3 := q9 B3;replace B4 := q9 B4;replace B7 := q9 B7;replace B8 := q9 B8;replace Ba := q9 Ba;clear q9;have Cd := Nat.le_of_eq ho.size.symm;clear ho C5 C3;refine pD (iv nx) (iv 0) ?_;refine zn (cK [0,2,4,5,6,15,16] (fun L => ?_));refine zc (zp (pD (iv 0) (.bool false) ?_));refine zn (zf ?_);refine cw_skip (qw_block (zq (zp (pU (iv ((i + 1 : Nat) : Int)) (ew (by omega) (by omega)) ?_))));refine pT (iv ((i + 1 : Nat) : Int)) ?_;refine pl_nil (zr [0, 2, 4, 5, 15, 16] _ ?_ ⟨(i + 1), (fun j => if j = i then n else f j), nx, rfl, rfl, (T D6 (T Cc Cd)), hE, B0, B2, B3, B4, B7, B8, Ba, Ca, Cb, by omega, by omega, (Rep.decP_next hdp ho)⟩);omega
 ·
  obtain rfl : i = 6 := by omega
  have C4 := hA;have Bh := C4.at_ 0 (by omega);have Bi := C4.at_ 1 (by omega);have Bj := C4.at_ 2 (by omega);have Bf := C4.at_ 3 (by omega);have Bk := C4.at_ 4 (by omega);have Bm := C4.at_ 5 (by omega);have hdr := Rep.decR_at hdp;have hft := Rep.decP_fits hdp 3;unfold Wire.fits at hft;refine zc (zp (pT (.bool false) ?_));refine zn (zc (zf ?_));refine cw_exit (qw_then_exit (qw_then_exit (qw_block_out (zq (zc (cw_seq ?_))))));rcases hos : Wire.rdS s a with _ | ⟨y, e9⟩
  ·
   have hdn := hdr.trans (Rep.decT_none hos);refine zp (pD (.string s) (iv a) ?_);refine pS (sc 75 #[.string s, iv a] ((String_n _ hs ha hos).mono ?_));rintro e Db ⟨rfl, hb⟩;refine mv12 hb hE B0 B2 B3 B4 B7 B8 Ba Bc Bh Bi Bj fun hE B0 B2 B3 B4 B7 B8 Ba Bc Bh Bi Bj=>?_;refine mv3 hb Bf Bk Bm fun Bf Bk Bm=>?_;have Cv := hb.size;refine ⟨_, rfl, pD (.tuple #[.string (⟨#[]⟩), iv 0, iv 10]) (.string (⟨#[]⟩)) ?_⟩;refine pD (iv 0) (iv 10) ?_;refine pT (pw O5 6) ?_;refine pP (zE O5 6 (.string (⟨#[]⟩)) (st9 Bc.1 Bc.2) Bc ?_);intro Cf ho Bc hk;replace hE := ho.ext hE (T C9 (Nat.le_of_eq Bb));have q9 := ho.bx O1 (by omega);replace B0 := q9 B0;replace B2 := q9 B2;replace B3 := q9 B3;replace B4 := q9 B4;replace B7 := q9 B7;replace B8 := q9 B8;replace Ba := q9 Ba;clear q9;replace Bh := hk 0 _ (by omega) Bh;replace Bi := hk 1 _ (by omega) Bi;replace Bj := hk 2 _ (by omega) Bj;replace Bf := hk 3 _ (by omega) Bf;replace Bk := hk 4 _ (by omega) Bk;replace Bm := hk 5 _ (by omega) Bm;have Cw := Nat.le_of_eq ho.size.symm;clear ho hk;refine pD (iv 0) (iv 10) ?_;refine zn (cK [0,2,4,5,6] (fun L => ?_));refine zc (zp (pD (iv 10) (.bool true) ?_));refine zn (zt ?_);refine zc (zp (pT (.agg #[iv 0, iv 0, iv 0, iv 0, iv 0, iv 0, .string (⟨#[]⟩)]) ?_));refine pP (sn_setK7 (O := O1) (j := 0) (v0 := iv 0) (v1 := iv 0) (v2 := iv 0) (v3 := iv 0) (v4 := iv 0) (v5 := iv 0) (v6 := .string (⟨#[]⟩)) (xt (pw O1 0) (.agg #[iv 0, iv 0, iv 0, iv 0, iv 0, iv 0, .string (⟨#[]⟩)]) (st49 B0.1 B0.2 B2.1 B2.2 B3.1 B3.2 B4.1 B4.2 B7.1 B7.2 B8.1 B8.2 Ba.1 Ba.2)) B0 B2 B3 B4 B7 B8 Ba ?_);intro Cm ho B0 B2 B3 B4 B7 B8 Ba hk;replace hE := ho.ext hE (Nat.le_of_eq Bv);replace Bh := ho.box (by omega) Bh;replace Bi := ho.box (by omega) Bi;replace Bj := ho.box (by omega) Bj;replace Bf := ho.box (by omega) Bf;replace Bk := ho.box (by omega) Bk;replace Bm := ho.box (by omega) Bm;replace Bc := ho.box (by omega) Bc;have Cx := Nat.le_of_eq ho.size.symm;clear ho hk;refine pT (iv 350) ?_;refine zn (cw_ret (qw_then_ret (qw_ret [.agg #[iv 0, iv 0, iv 0, iv 0, iv 0, iv 0, .string (⟨#[]⟩)], iv 350] rfl ⟨⟨_, by kernel_rfl, res_ld (ld49 (B0.1) (B2.1) (B3.1) (B4.1) (B7.1) (B8.1) (Ba.1))⟩, (by kernel_rfl), trivial⟩ ?_)));exact ⟨Rec.zero, _, rfl, by rw [hdn]; exact ⟨rfl, rfl⟩, hE⟩
  ·
   refine zp (pD (.string s) (iv a) ?_);refine pS (sc 75 #[.string s, iv a] ((String_y _ hs ha hos).mono ?_));rintro e Dc ⟨rfl, hb⟩;refine mv12 hb hE B0 B2 B3 B4 B7 B8 Ba Bc Bh Bi Bj fun hE B0 B2 B3 B4 B7 B8 Ba Bc Bh Bi Bj=>?_;refine mv3 hb Bf Bk Bm fun Bf Bk Bm=>?_;have Cy := hb.size;refine ⟨_, rfl, pD (.tuple #[.string y, iv e9, iv 0]) (.string y) ?_⟩;refine pD (iv e9) (iv 0) ?_;refine pT (pw O5 6) ?_;refine pP (zE O5 6 (.string y) (st9 Bc.1 Bc.2) Bc ?_);intro Cg ho Bc hk;replace hE := ho.ext hE (T C9 (Nat.le_of_eq Bb));have q9 := ho.bx O1 (by omega);replace B0 := q9 B0;replace B2 := q9 B2;replace B3 := q9 B3;replace B4 := q9 B4;replace B7 := q9 B7;replace B8 := q9 B8;replace Ba := q9 Ba;clear q9;replace Bh := hk 0 _ (by omega) Bh;replace Bi := hk 1 _ (by omega) Bi;replace Bj := hk 2 _ (by omega) Bj;replace Bf := hk 3 _ (by omega) Bf;replace Bk := hk 4 _ (by omega) Bk;replace Bm := hk 5 _ (by omega) Bm;have Cz := Nat.le_of_eq ho.size.symm;clear ho hk;refine pD (iv e9) (iv 0) ?_;refine zn (cK [0,2,4,5,6] (fun L => ?_));refine zc (zp (pD (iv 0) (.bool false) ?_));refine zn (zf ?_);refine cw_skip (zq (zc (zp (pT (pw O5 3) ?_))));refine pU (iv (f 3 : Int)) (xl (ld3 (Bf.1))) ?_;refine pU (iv ((f 3) - 1 : Int)) (ew (by omega) (by omega)) ?_;refine pT (pw O5 3) ?_;refine pP (zE O5 3 (iv ((f 3) - 1 : Int)) (st3 Bf.1 Bf.2) Bf ?_);intro Ch ho Bf hk;replace hE := ho.ext hE (T C9 (Nat.le_of_eq Bb));have q9 := ho.bx O1 (by omega);replace B0 := q9 B0;replace B2 := q9 B2;replace B3 := q9 B3;replace B4 := q9 B4;replace B7 := q9 B7;replace B8 := q9 B8;replace Ba := q9 Ba;clear q9;replace Bh := hk 0 _ (by omega) Bh;replace Bi := hk 1 _ (by omega) Bi;replace Bj := hk 2 _ (by omega) Bj;replace Bk := hk 4 _ (by omega) Bk;replace Bm := hk 5 _ (by omega) Bm;replace Bc := hk 6 _ (by omega) Bc;have D0 := Nat.le_of_eq ho.size.symm;clear ho hk;refine zn (zc (cw_seq ?_))
   by_cases Ci : e9 = s.size
   ·
    cases hok : Rep.okR (⟨f 0, f 1, f 2, f 3 - 1, f 4, f 5, y⟩ : Rec)
    ·
     have hdn := hdr.trans (Rep.decT_bad hos (fun q => by rw [hok] at q; cases q.2));refine zp (pD (iv e9) (.string s) ?_);refine pT (iv ((ByteArray.size s : Nat) : Int)) ?_;refine pU (.bool false) (ev_nne (show _ = Result.ok (Next.value (Value.bool (((e9 : Nat) : Int) != ((ByteArray.size s : Nat) : Int)))) _ from by kernel_rfl) (by omega)) ?_;refine pT (.bool false) ?_;refine pU (.agg #[iv (f 0 : Int), iv (f 1 : Int), iv (f 2 : Int), iv ((f 3) - 1 : Int), iv (f 4 : Int), iv (f 5 : Int), .string y]) (xl (ld49 (Bh.1) (Bi.1) (Bj.1) (Bf.1) (Bk.1) (Bm.1) (Bc.1))) ?_;refine pS (sc 50 #[.agg #[iv (f 0 : Int), iv (f 1 : Int), iv (f 2 : Int), iv ((f 3) - 1 : Int), iv (f 4 : Int), iv (f 5 : Int), .string y]] ((formed_r (⟨f 0, f 1, f 2, f 3 - 1, f 4, f 5, y⟩ : Rec) (r := false) _ (hRl.ext hE) hok).mono ?_));rintro e Dd ⟨rfl, hb⟩;refine mv12 hb hE B0 B2 B3 B4 B7 B8 Ba Bh Bi Bj Bk fun hE B0 B2 B3 B4 B7 B8 Ba Bh Bi Bj Bk=>?_;refine mv3 hb Bm Bc Bf fun Bm Bc Bf=>?_;have D1 := hb.size;refine ⟨_, rfl, pD (.bool true) (.bool true) ?_⟩;refine zn (cK [2,4,55] (fun L => ?_));refine zt ?_;refine zc (zp (pT (.agg #[iv 0, iv 0, iv 0, iv 0, iv 0, iv 0, .string (⟨#[]⟩)]) ?_));refine pP (sn_setK7 (O := O1) (j := 0) (v0 := iv 0) (v1 := iv 0) (v2 := iv 0) (v3 := iv 0) (v4 := iv 0) (v5 := iv 0) (v6 := .string (⟨#[]⟩)) (xt (pw O1 0) (.agg #[iv 0, iv 0, iv 0, iv 0, iv 0, iv 0, .string (⟨#[]⟩)]) (st49 B0.1 B0.2 B2.1 B2.2 B3.1 B3.2 B4.1 B4.2 B7.1 B7.2 B8.1 B8.2 Ba.1 Ba.2)) B0 B2 B3 B4 B7 B8 Ba ?_);intro Cn ho B0 B2 B3 B4 B7 B8 Ba hk;replace hE := ho.ext hE (Nat.le_of_eq Bv);replace Bh := ho.box (by omega) Bh;replace Bi := ho.box (by omega) Bi;replace Bj := ho.box (by omega) Bj;replace Bk := ho.box (by omega) Bk;replace Bm := ho.box (by omega) Bm;replace Bc := ho.box (by omega) Bc;replace Bf := ho.box (by omega) Bf;have D2 := Nat.le_of_eq ho.size.symm;clear ho hk;refine pT (iv 350) ?_;refine zn (cw_ret (qw_then_ret (qw_ret [.agg #[iv 0, iv 0, iv 0, iv 0, iv 0, iv 0, .string (⟨#[]⟩)], iv 350] rfl ⟨⟨_, by kernel_rfl, res_ld (ld49 (B0.1) (B2.1) (B3.1) (B4.1) (B7.1) (B8.1) (Ba.1))⟩, (by kernel_rfl), trivial⟩ ?_)));exact ⟨Rec.zero, _, rfl, by rw [hdn]; exact ⟨rfl, rfl⟩, hE⟩
    ·
     have hdy := hdr.trans (Rep.decT_ok hos ⟨Ci, hok⟩);refine zp (pD (iv e9) (.string s) ?_);refine pT (iv ((ByteArray.size s : Nat) : Int)) ?_;refine pU (.bool false) (ev_nne (show _ = Result.ok (Next.value (Value.bool (((e9 : Nat) : Int) != ((ByteArray.size s : Nat) : Int)))) _ from by kernel_rfl) (by omega)) ?_;refine pT (.bool false) ?_;refine pU (.agg #[iv (f 0 : Int), iv (f 1 : Int), iv (f 2 : Int), iv ((f 3) - 1 : Int), iv (f 4 : Int), iv (f 5 : Int), .string y]) (xl (ld49 (Bh.1) (Bi.1) (Bj.1) (Bf.1) (Bk.1) (Bm.1) (Bc.1))) ?_;refine pS (sc 50 #[.agg #[iv (f 0 : Int), iv (f 1 : Int), iv (f 2 : Int), iv ((f 3) - 1 : Int), iv (f 4 : Int), iv (f 5 : Int), .string y]] ((formed_r (⟨f 0, f 1, f 2, f 3 - 1, f 4, f 5, y⟩ : Rec) (r := true) _ (hRl.ext hE) hok).mono ?_));rintro e De ⟨rfl, hb⟩;refine mv12 hb hE B0 B2 B3 B4 B7 B8 Ba Bh Bi Bj Bk fun hE B0 B2 B3 B4 B7 B8 Ba Bh Bi Bj Bk=>?_;refine mv3 hb Bm Bc Bf fun Bm Bc Bf=>?_;have D3 := hb.size;refine ⟨_, rfl, pD (.bool false) (.bool false) ?_⟩;refine zn (cK [2,4,55] (fun L => ?_));refine zf ?_;refine cw_skip (zq (zc (zp (pU (.agg #[iv (f 0 : Int), iv (f 1 : Int), iv (f 2 : Int), iv ((f 3) - 1 : Int), iv (f 4 : Int), iv (f 5 : Int), .string y]) (xl (ld49 (Bh.1) (Bi.1) (Bj.1) (Bf.1) (Bk.1) (Bm.1) (Bc.1))) ?_))));refine pP (sn_setK7 (O := O1) (j := 0) (v0 := iv (f 0 : Int)) (v1 := iv (f 1 : Int)) (v2 := iv (f 2 : Int)) (v3 := iv ((f 3) - 1 : Int)) (v4 := iv (f 4 : Int)) (v5 := iv (f 5 : Int)) (v6 := .string y) (xt (pw O1 0) (.agg #[iv (f 0 : Int), iv (f 1 : Int), iv (f 2 : Int), iv ((f 3) - 1 : Int), iv (f 4 : Int), iv (f 5 : Int), .string y]) (st49 B0.1 B0.2 B2.1 B2.2 B3.1 B3.2 B4.1 B4.2 B7.1 B7.2 B8.1 B8.2 Ba.1 Ba.2)) B0 B2 B3 B4 B7 B8 Ba ?_);intro Co ho B0 B2 B3 B4 B7 B8 Ba hk;replace hE := ho.ext hE (Nat.le_of_eq Bv);have D4 := Nat.le_of_eq ho.size.symm;clear ho hk;refine pT (iv 0) ?_;refine zn (cw_ret (qw_ret [.agg #[iv (f 0 : Int), iv (f 1 : Int), iv (f 2 : Int), iv ((f 3) - 1 : Int), iv (f 4 : Int), iv (f 5 : Int), .string y], iv 0] rfl ⟨⟨_, by kernel_rfl, res_ld (ld49 (B0.1) (B2.1) (B3.1) (B4.1) (B7.1) (B8.1) (Ba.1))⟩, (by kernel_rfl), trivial⟩ ?_));exact ⟨(⟨f 0, f 1, f 2, f 3 - 1, f 4, f 5, y⟩ : Rec), _, rfl, by rw [hdy]; exact ⟨rfl, rfl⟩, hE⟩
   ·
    have hdn := hdr.trans (Rep.decT_bad hos (fun q => Ci q.1));refine zp (pD (iv e9) (.string s) ?_);refine pT (iv ((ByteArray.size s : Nat) : Int)) ?_;refine pU (.bool true) (eM ((e9 : Nat) : Int) ((ByteArray.size s : Nat) : Int) (by omega)) ?_;refine pT (.bool true) ?_;refine pK ?_;refine pK ?_;refine pK ?_;refine pT (.bool true) ?_;refine zn (cK [2,4,55] (fun L => ?_));refine zt ?_;refine zc (zp (pT (.agg #[iv 0, iv 0, iv 0, iv 0, iv 0, iv 0, .string (⟨#[]⟩)]) ?_));refine pP (sn_setK7 (O := O1) (j := 0) (v0 := iv 0) (v1 := iv 0) (v2 := iv 0) (v3 := iv 0) (v4 := iv 0) (v5 := iv 0) (v6 := .string (⟨#[]⟩)) (xt (pw O1 0) (.agg #[iv 0, iv 0, iv 0, iv 0, iv 0, iv 0, .string (⟨#[]⟩)]) (st49 B0.1 B0.2 B2.1 B2.2 B3.1 B3.2 B4.1 B4.2 B7.1 B7.2 B8.1 B8.2 Ba.1 Ba.2)) B0 B2 B3 B4 B7 B8 Ba ?_);intro Cp ho B0 B2 B3 B4 B7 B8 Ba hk;replace hE := ho.ext hE (Nat.le_of_eq Bv);have D5 := Nat.le_of_eq ho.size.symm;clear ho hk;refine pT (iv 350) ?_;refine zn (cw_ret (qw_then_ret (qw_ret [.agg #[iv 0, iv 0, iv 0, iv 0, iv 0, iv 0, .string (⟨#[]⟩)], iv 350] rfl ⟨⟨_, by kernel_rfl, res_ld (ld49 (B0.1) (B2.1) (B3.1) (B4.1) (B7.1) (B8.1) (Ba.1))⟩, (by kernel_rfl), trivial⟩ ?_)));exact ⟨Rec.zero, _, rfl, by rw [hdn]; exact ⟨rfl, rfl⟩, hE⟩
theorem Encode_y {x : Rec} (w : World) (hRl : RootAt w) (h : Rep.okR x = true) : Calls Tryz.prog 31 #[.agg #[.int .i64 x.c, .int .i64 x.n, .int .i64 x.t, .int .i64 x.o, .int .i64 x.w, .int .i64 x.k, .string x.x]] w fun e w' => e = .returned (.tuple #[.string (Rep.encR x), .int .i64 0]) ∧ Ext w w' :=
 (Encode_c w hRl).mono fun _ _ ⟨s, er, he, hO, hE⟩ => by
  rcases hO with ⟨_, rfl, rfl⟩ | ⟨q, _⟩
  · exact ⟨he, hE⟩
  · rw [h] at q; cases q
theorem Encode_n {x : Rec} (w : World) (hRl : RootAt w) (h : Rep.okR x = false) : Calls Tryz.prog 31 #[.agg #[.int .i64 x.c, .int .i64 x.n, .int .i64 x.t, .int .i64 x.o, .int .i64 x.w, .int .i64 x.k, .string x.x]] w fun e w' => e = .returned (.tuple #[.string ⟨#[]⟩, .int .i64 350]) ∧ Ext w w' :=
 (Encode_c w hRl).mono fun _ _ ⟨s, er, he, hO, hE⟩ => by
  rcases hO with ⟨q, _⟩ | ⟨_, rfl, rfl⟩
  · rw [h] at q; cases q
  · exact ⟨he, hE⟩
theorem Decode_y {s : ByteArray} {x : Rec} (w : World) (hs : s.size ≤ 1000000) (hRl : RootAt w) (h : Rep.decR s = some x) : Calls Tryz.prog 35 #[.string s] w fun e w' => e = .returned (.tuple #[.agg #[.int .i64 x.c, .int .i64 x.n, .int .i64 x.t, .int .i64 x.o, .int .i64 x.w, .int .i64 x.k, .string x.x], .int .i64 0]) ∧ Ext w w' :=
 (Decode_c w hs hRl).mono fun _ _ ⟨y, er, he, hO, hE⟩ => by
  rw [h] at hO; obtain ⟨rfl, rfl⟩ := hO; exact ⟨he, hE⟩
theorem Decode_n {s : ByteArray} (w : World) (hs : s.size ≤ 1000000) (hRl : RootAt w) (h : Rep.decR s = none) : Calls Tryz.prog 35 #[.string s] w fun e w' => e = .returned (.tuple #[.agg #[.int .i64 0, .int .i64 0, .int .i64 0, .int .i64 0, .int .i64 0, .int .i64 0, .string ⟨#[]⟩], .int .i64 350]) ∧ Ext w w' :=
 (Decode_c w hs hRl).mono fun _ _ ⟨y, er, he, hO, hE⟩ => by
  rw [h] at hO; obtain ⟨rfl, rfl⟩ := hO; exact ⟨he, hE⟩
instance {w w' : World} {B : Nat} {f : Nat → Int} : MvC w w' (Arr6 w B f) (Arr6 w' B f) := ⟨fun e h => h.ext e⟩
end Go.Proofs.YtfmoabgjaclkpaaGreatDoor

namespace Go.Proofs.YtfmoabgjaclkpaaGreatDoor
set_option maxRecDepth 1000000
set_option maxHeartbeats 4000000
set_option synthInstance.maxHeartbeats 0
set_option synthInstance.maxSize 9999
open Go.RowKit
namespace Rep
def posK (l : List Rec) (k : Int × Int) : Int := ixF (fun r => decide (r.key = k)) l
theorem pos_cases (l : List Rec) (k : Int × Int) : (posK l k = -1 ∧ findK l k = none) ∨ ∃ i : Nat, posK l k = (i : Int) ∧ i < l.length ∧ findK l k = some (recN l i) := by
  unfold posK
  rcases ix_cases (fun r => decide (r.key = k)) l with ⟨h1, h2⟩ | ⟨i, h1, h2, h3, h4⟩
  · refine .inl ⟨h1, List.find?_eq_none.2 fun x hx => ?_⟩
    obtain ⟨j, hj, rfl⟩ := mem_recN hx
    rw [h2 j hj]; exact Bool.false_ne_true
  · refine .inr ⟨i, h1, h2, ?_⟩
    unfold findK
    rw [List.find?_eq_some_iff_getElem]
    exact ⟨h4, i, h2, (recN_get h2).symm, fun j hj => by rw [← recN_get (by omega), h3 j hj]; rfl⟩
theorem steps_srt {l : List Rec} (hs : ∀ i, i < l.length → stepB l i = true) : l.Pairwise ltL := pair_next fun i hi => by
 have := ((of_decide_eq_true (hs (i + 1) hi)).2.2 (by omega)).1
 rw [Nat.add_sub_cancel] at this; exact listC_neg.1 this
theorem valid_unsound {c : Int} {l : List Rec} {x : Rec} (hx : x ∈ l) (h : soundB (bookL l) x = false) : validB c l = false := by
 unfold validB
 rw [List.any_eq_true.2 ⟨x, hx, by rw [h]; rfl⟩, Bool.not_true, Bool.and_false]
theorem valid_sound {c : Int} {l : List Rec} (h : (0 ≤ c ∧ c ≤ 15) ∧ l.length ≤ 80) (hs : ∀ i, i < l.length → stepB l i = true) (hq : ∀ i, i < l.length → soundB (bookL l) (recN l i) = true) : validB c l = true := by
 rw [valid_end h hs, Bool.not_eq_true', Bool.eq_false_iff]
 intro q
 obtain ⟨x, hx, q⟩ := List.any_eq_true.1 q
 obtain ⟨i, hi, rfl⟩ := mem_recN hx
 rw [hq i hi] at q; cases q
theorem sound_root {mp : List ((Int × Int) × Rec)} {x : Rec} (h : isRoot x) : soundB mp x = true := by unfold soundB; rw [decide_eq_true (show x.o = -1 ∧ x.w = 0 from h)]; rfl
theorem sound_at {l : List Rec} (hd : keysD l) {x y : Rec} (hr : ¬ isRoot x) (h : findK l (x.o, x.w) = some y) : soundB (bookL l) x = decide (ltB y x) := by
 unfold soundB
 rw [book_get hd, h, decide_eq_false (show ¬ (x.o = -1 ∧ x.w = 0) from hr), Bool.false_or]
 exact decide_eq_decide.2 befC_neg
theorem sound_miss {l : List Rec} (hd : keysD l) {x : Rec} (hr : ¬ isRoot x) (h : findK l (x.o, x.w) = none) : soundB (bookL l) x = false := by
 unfold soundB
 rw [book_get hd, h, decide_eq_false (show ¬ (x.o = -1 ∧ x.w = 0) from hr)]; rfl
theorem root_neg {x : Rec} (h : okR x = true) : (x.o < 0 → isRoot x) ∧ (¬ x.o < 0 → ¬ isRoot x) := by
 have := of_decide_eq_true h
 unfold isRoot
 exact ⟨fun q => by omega, fun q => by omega⟩
theorem step_ok {l : List Rec} {i : Nat} (h : stepB l i = true) : okR (recN l i) = true := (of_decide_eq_true h).1
end Rep
theorem rFormed_c (x : Rec) (w : World) : Calls Tryz.prog 56 #[.agg #[iv x.c, iv x.n, iv x.t, iv x.o, iv x.w, iv x.k, .string x.x]] w fun e w' => e = .returned (.bool (Rep.okR x)) ∧ Ext w w' := by
 refine calls_cw 87 [(0, .agg #[iv x.c, iv x.n, iv x.t, iv x.o, iv x.w, iv x.k, .string x.x])] Tryz.func56 rfl Tryz.ntmps56 (by kernel_rfl) (by kernel_rfl) (fun L => ?_);have hE := Ext.refl w;refine zc (zp (pS (sw 49 #[iv x.c, iv x.n, iv x.t, iv x.o, iv x.w, iv x.k, .string x.x] ?_)));intro O1 X2 C1 C0 hb hbx;have ⟨B3, B4, B7, B0, B2, B8, Ba⟩ := bq7 hbx;replace hE := hE.trans hb;have C3 := hb.size;have C4 := B3.lt;refine pT (.bool false) ?_;refine zn (cw_seq ?_);refine cw_seq ?_;have C2 := Ext.refl X2;refine zp (pT (pw O1 0) ?_);refine pU (iv x.c) (xl (ld3 (B3.1))) ?_
 by_cases Bw : (x.c : Int) < (0 : Int)
 ·
  refine pU (.bool true) (ed ((x.c : Int) < (0 : Int)) (Bw)) ?_;refine pT (.bool true) ?_;refine pK ?_;refine pK ?_;refine pK ?_;refine pD (.bool true) (.bool true) ?_;refine pK ?_;refine pK ?_;refine pK ?_;refine pD (.bool true) (.bool true) ?_;refine pK ?_;refine pK ?_;refine pK ?_;refine pD (.bool true) (.bool true) ?_;refine pK ?_;refine pK ?_;refine pK ?_;refine pD (.bool true) (.bool true) ?_;refine pK ?_;refine pK ?_;refine pK ?_;refine pD (.bool true) (.bool true) ?_;refine pK ?_;refine pK ?_;refine pK ?_;refine pD (.bool true) (.bool true) ?_;refine pK ?_;refine pK ?_;refine pK ?_;refine pD (.bool true) (.bool true) ?_;refine pK ?_;refine pK ?_;refine pK ?_;refine pK ?_;refine pT (.bool true) ?_;refine zn (cK [1,46] (fun L => ?_));refine zt ?_;refine zc (zp (pT (.bool false) ?_));refine zn (cw_ret (qw_then_ret (qw_ret [.bool false] rfl ⟨(by kernel_rfl), trivial⟩ ?_)));exact ⟨rb ((show Rep.okR x = false from decide_eq_false (by omega)).symm), hE⟩
 ·
  refine pU (.bool false) (en ((x.c : Int) < (0 : Int)) (Bw)) ?_;refine pD (.bool false) (pw O1 0) ?_;refine pU (iv x.c) (xl (ld3 (B3.1))) ?_
  by_cases Bx : (x.c : Int) > (15 : Int)
  ·
   refine pU (.bool true) (ed ((x.c : Int) > (15 : Int)) (Bx)) ?_;refine pD (.bool true) (.bool true) ?_;refine pK ?_;refine pK ?_;refine pK ?_;refine pD (.bool true) (.bool true) ?_;refine pK ?_;refine pK ?_;refine pK ?_;refine pD (.bool true) (.bool true) ?_;refine pK ?_;refine pK ?_;refine pK ?_;refine pD (.bool true) (.bool true) ?_;refine pK ?_;refine pK ?_;refine pK ?_;refine pD (.bool true) (.bool true) ?_;refine pK ?_;refine pK ?_;refine pK ?_;refine pD (.bool true) (.bool true) ?_;refine pK ?_;refine pK ?_;refine pK ?_;refine pD (.bool true) (.bool true) ?_;refine pK ?_;refine pK ?_;refine pK ?_;refine pK ?_;refine pT (.bool true) ?_;refine zn (cK [1,46] (fun L => ?_));refine zt ?_;refine zc (zp (pT (.bool false) ?_));refine zn (cw_ret (qw_then_ret (qw_ret [.bool false] rfl ⟨(by kernel_rfl), trivial⟩ ?_)));exact ⟨rb ((show Rep.okR x = false from decide_eq_false (by omega)).symm), hE⟩
  ·
   refine pU (.bool false) (en ((x.c : Int) > (15 : Int)) (Bx)) ?_;refine pD (.bool false) (.bool false) ?_;refine pT (pw O1 1) ?_;refine pU (iv x.n) (xl (ld3 (B4.1))) ?_
   by_cases By : (x.n : Int) < (1 : Int)
   ·
    refine pU (.bool true) (ed ((x.n : Int) < (1 : Int)) (By)) ?_;refine pD (.bool true) (.bool true) ?_;refine pK ?_;refine pK ?_;refine pK ?_;refine pD (.bool true) (.bool true) ?_;refine pK ?_;refine pK ?_;refine pK ?_;refine pD (.bool true) (.bool true) ?_;refine pK ?_;refine pK ?_;refine pK ?_;refine pD (.bool true) (.bool true) ?_;refine pK ?_;refine pK ?_;refine pK ?_;refine pD (.bool true) (.bool true) ?_;refine pK ?_;refine pK ?_;refine pK ?_;refine pD (.bool true) (.bool true) ?_;refine pK ?_;refine pK ?_;refine pK ?_;refine pK ?_;refine pT (.bool true) ?_;refine zn (cK [1,46] (fun L => ?_));refine zt ?_;refine zc (zp (pT (.bool false) ?_));refine zn (cw_ret (qw_then_ret (qw_ret [.bool false] rfl ⟨(by kernel_rfl), trivial⟩ ?_)));exact ⟨rb ((show Rep.okR x = false from decide_eq_false (by omega)).symm), hE⟩
   ·
    refine pU (.bool false) (en ((x.n : Int) < (1 : Int)) (By)) ?_;refine pD (.bool false) (.bool false) ?_;refine pT (pw O1 1) ?_;refine pU (iv x.n) (xl (ld3 (B4.1))) ?_
    by_cases Bz : (x.n : Int) > (80 : Int)
    ·
     refine pU (.bool true) (ed ((x.n : Int) > (80 : Int)) (Bz)) ?_;refine pD (.bool true) (.bool true) ?_;refine pK ?_;refine pK ?_;refine pK ?_;refine pD (.bool true) (.bool true) ?_;refine pK ?_;refine pK ?_;refine pK ?_;refine pD (.bool true) (.bool true) ?_;refine pK ?_;refine pK ?_;refine pK ?_;refine pD (.bool true) (.bool true) ?_;refine pK ?_;refine pK ?_;refine pK ?_;refine pD (.bool true) (.bool true) ?_;refine pK ?_;refine pK ?_;refine pK ?_;refine pK ?_;refine pT (.bool true) ?_;refine zn (cK [1,46] (fun L => ?_));refine zt ?_;refine zc (zp (pT (.bool false) ?_));refine zn (cw_ret (qw_then_ret (qw_ret [.bool false] rfl ⟨(by kernel_rfl), trivial⟩ ?_)));exact ⟨rb ((show Rep.okR x = false from decide_eq_false (by omega)).symm), hE⟩
    ·
     refine pU (.bool false) (en ((x.n : Int) > (80 : Int)) (Bz)) ?_;refine pD (.bool false) (.bool false) ?_;refine pT (pw O1 2) ?_;refine pU (iv x.t) (xl (ld3 (B7.1))) ?_
     by_cases Bb : (x.t : Int) < (0 : Int)
     ·
      refine pU (.bool true) (ed ((x.t : Int) < (0 : Int)) (Bb)) ?_;refine pD (.bool true) (.bool true) ?_;refine pK ?_;refine pK ?_;refine pK ?_;refine pD (.bool true) (.bool true) ?_;refine pK ?_;refine pK ?_;refine pK ?_;refine pD (.bool true) (.bool true) ?_;refine pK ?_;refine pK ?_;refine pK ?_;refine pD (.bool true) (.bool true) ?_;refine pK ?_;refine pK ?_;refine pK ?_;refine pK ?_;refine pT (.bool true) ?_;refine zn (cK [1,46] (fun L => ?_));refine zt ?_;refine zc (zp (pT (.bool false) ?_));refine zn (cw_ret (qw_then_ret (qw_ret [.bool false] rfl ⟨(by kernel_rfl), trivial⟩ ?_)));exact ⟨rb ((show Rep.okR x = false from decide_eq_false (by omega)).symm), hE⟩
     ·
      refine pU (.bool false) (en ((x.t : Int) < (0 : Int)) (Bb)) ?_;refine pD (.bool false) (.bool false) ?_;refine pT (pw O1 2) ?_;refine pU (iv x.t) (xl (ld3 (B7.1))) ?_
      by_cases Bc : (x.t : Int) > (1000000 : Int)
      ·
       refine pU (.bool true) (ed ((x.t : Int) > (1000000 : Int)) (Bc)) ?_;refine pD (.bool true) (.bool true) ?_;refine pK ?_;refine pK ?_;refine pK ?_;refine pD (.bool true) (.bool true) ?_;refine pK ?_;refine pK ?_;refine pK ?_;refine pD (.bool true) (.bool true) ?_;refine pK ?_;refine pK ?_;refine pK ?_;refine pK ?_;refine pT (.bool true) ?_;refine zn (cK [1,46] (fun L => ?_));refine zt ?_;refine zc (zp (pT (.bool false) ?_));refine zn (cw_ret (qw_then_ret (qw_ret [.bool false] rfl ⟨(by kernel_rfl), trivial⟩ ?_)));exact ⟨rb ((show Rep.okR x = false from decide_eq_false (by omega)).symm), hE⟩
      ·
       refine pU (.bool false) (en ((x.t : Int) > (1000000 : Int)) (Bc)) ?_;refine pD (.bool false) (.bool false) ?_;refine pT (pw O1 5) ?_;refine pU (iv x.k) (xl (ld3 (B8.1))) ?_
       by_cases Be : (x.k : Int) < (0 : Int)
       ·
        refine pU (.bool true) (ed ((x.k : Int) < (0 : Int)) (Be)) ?_;refine pD (.bool true) (.bool true) ?_;refine pK ?_;refine pK ?_;refine pK ?_;refine pD (.bool true) (.bool true) ?_;refine pK ?_;refine pK ?_;refine pK ?_;refine pK ?_;refine pT (.bool true) ?_;refine zn (cK [1,46] (fun L => ?_));refine zt ?_;refine zc (zp (pT (.bool false) ?_));refine zn (cw_ret (qw_then_ret (qw_ret [.bool false] rfl ⟨(by kernel_rfl), trivial⟩ ?_)));exact ⟨rb ((show Rep.okR x = false from decide_eq_false (by omega)).symm), hE⟩
       ·
        refine pU (.bool false) (en ((x.k : Int) < (0 : Int)) (Be)) ?_;refine pD (.bool false) (.bool false) ?_;refine pT (pw O1 5) ?_;refine pU (iv x.k) (xl (ld3 (B8.1))) ?_
        by_cases Bf : (x.k : Int) > (15 : Int)
        ·
         refine pU (.bool true) (ed ((x.k : Int) > (15 : Int)) (Bf)) ?_;refine pD (.bool true) (.bool true) ?_;refine pK ?_;refine pK ?_;refine pK ?_;refine pK ?_;refine pT (.bool true) ?_;refine zn (cK [1,46] (fun L => ?_));refine zt ?_;refine zc (zp (pT (.bool false) ?_));refine zn (cw_ret (qw_then_ret (qw_ret [.bool false] rfl ⟨(by kernel_rfl), trivial⟩ ?_)));exact ⟨rb ((show Rep.okR x = false from decide_eq_false (by omega)).symm), hE⟩
        ·
         refine pU (.bool false) (en ((x.k : Int) > (15 : Int)) (Bf)) ?_;refine pD (.bool false) (.bool false) ?_;refine pT (pw O1 6) ?_;refine pU (.string x.x) (xl (ld9 (Ba.1))) ?_;refine pT (iv ((ByteArray.size x.x : Nat) : Int)) ?_
         by_cases Bg : ((ByteArray.size x.x : Nat) : Int) > (4000 : Int)
         ·
          refine pU (.bool true) (ed (((ByteArray.size x.x : Nat) : Int) > (4000 : Int)) (Bg)) ?_;refine pT (.bool true) ?_;refine zn (cK [1,46] (fun L => ?_));refine zt ?_;refine zc (zp (pT (.bool false) ?_));refine zn (cw_ret (qw_then_ret (qw_ret [.bool false] rfl ⟨(by kernel_rfl), trivial⟩ ?_)));exact ⟨rb ((show Rep.okR x = false from decide_eq_false (by omega)).symm), hE⟩
         ·
          refine pU (.bool false) (en (((ByteArray.size x.x : Nat) : Int) > (4000 : Int)) (Bg)) ?_;refine pT (.bool false) ?_;refine zn (cK [1,46] (fun L => ?_));refine zf ?_;refine cw_skip (zq (zc (zc (zp (pT (pw O1 3) ?_)))));refine pU (iv x.o) (xl (ld3 (B0.1))) ?_
          by_cases Bh : (x.o : Int) = (-1 : Int)
          ·
           refine pU (.bool true) (eE (x.o : Int) (-1 : Int) (Bh)) ?_;refine pD (.bool true) (pw O1 4) ?_;refine pU (iv x.w) (xl (ld3 (B2.1))) ?_
           by_cases Bi : (x.w : Int) = (0 : Int)
           ·
            refine pU (.bool true) (eE (x.w : Int) (0 : Int) (Bi)) ?_;refine pT (.bool true) ?_;refine zn (zt ?_);refine zc (zp (pT (.bool true) ?_));refine zn (cw_ret (qw_then_ret (qw_ret [.bool true] rfl ⟨(by kernel_rfl), trivial⟩ ?_)));exact ⟨rb ((show Rep.okR x = true from decide_eq_true (by omega)).symm), hE⟩
           ·
            refine pU (.bool false) (eN (x.w : Int) (0 : Int) (Bi)) ?_;refine pT (.bool false) ?_;refine zn (zf ?_);refine cw_skip (zq (zc (zp (pT (pw O1 3) ?_))));refine pU (iv x.o) (xl (ld3 (B0.1))) ?_
            by_cases Bj : (x.o : Int) ≥ (0 : Int)
            ·
             refine pU (.bool true) (ed ((x.o : Int) ≥ (0 : Int)) (Bj)) ?_;refine pD (.bool true) (pw O1 3) ?_;refine pU (iv x.o) (xl (ld3 (B0.1))) ?_
             by_cases Bk : (x.o : Int) ≤ (15 : Int)
             ·
              refine pU (.bool true) (ed ((x.o : Int) ≤ (15 : Int)) (Bk)) ?_;refine pD (.bool true) (.bool true) ?_;refine pT (pw O1 4) ?_;refine pU (iv x.w) (xl (ld3 (B2.1))) ?_
              by_cases Bm : (x.w : Int) ≥ (1 : Int)
              ·
               refine pU (.bool true) (ed ((x.w : Int) ≥ (1 : Int)) (Bm)) ?_;refine pD (.bool true) (.bool true) ?_;refine pT (pw O1 4) ?_;refine pU (iv x.w) (xl (ld3 (B2.1))) ?_
               by_cases Bn : (x.w : Int) ≤ (80 : Int)
               ·
                refine pU (.bool true) (ed ((x.w : Int) ≤ (80 : Int)) (Bn)) ?_;refine pD (.bool true) (.bool true) ?_;refine pT (pw O1 3) ?_;refine pU (iv x.o) (xl (ld3 (B0.1))) ?_;refine pT (pw O1 0) ?_;refine pU (iv x.c) (xl (ld3 (B3.1))) ?_
                by_cases Bo : (x.o : Int) = (x.c : Int)
                ·
                 refine pU (.bool false) (ev_nne (show _ = Result.ok (Next.value (Value.bool ((x.o : Int) != (x.c : Int)))) _ from by kernel_rfl) (Bo)) ?_;refine pD (.bool false) (pw O1 4) ?_;refine pU (iv x.w) (xl (ld3 (B2.1))) ?_;refine pT (pw O1 1) ?_;refine pU (iv x.n) (xl (ld3 (B4.1))) ?_
                 by_cases Bp : (x.w : Int) = (x.n : Int)
                 ·
                  refine pU (.bool false) (ev_nne (show _ = Result.ok (Next.value (Value.bool ((x.w : Int) != (x.n : Int)))) _ from by kernel_rfl) (Bp)) ?_;refine pD (.bool false) (.bool false) ?_;refine pT (.bool false) ?_;refine zn (cK [2] (fun L => ?_));refine cw_ret (qw_ret [.bool false] rfl ⟨(by kernel_rfl), trivial⟩ ?_);exact ⟨rb ((show Rep.okR x = false from decide_eq_false (by omega)).symm), hE⟩
                 ·
                  refine pU (.bool true) (eM (x.w : Int) (x.n : Int) (Bp)) ?_;refine pD (.bool true) (.bool true) ?_;refine pT (.bool true) ?_;refine zn (cK [2] (fun L => ?_));refine cw_ret (qw_ret [.bool true] rfl ⟨(by kernel_rfl), trivial⟩ ?_);exact ⟨rb ((show Rep.okR x = true from decide_eq_true (by omega)).symm), hE⟩
                ·
                 refine pU (.bool true) (eM (x.o : Int) (x.c : Int) (Bo)) ?_;refine pT (.bool true) ?_;refine pK ?_;refine pK ?_;refine pK ?_;refine pK ?_;refine pK ?_;refine pD (.bool true) (.bool true) ?_;refine pT (.bool true) ?_;refine zn (cK [2] (fun L => ?_));refine cw_ret (qw_ret [.bool true] rfl ⟨(by kernel_rfl), trivial⟩ ?_);exact ⟨rb ((show Rep.okR x = true from decide_eq_true (by omega)).symm), hE⟩
               ·
                refine pU (.bool false) (en ((x.w : Int) ≤ (80 : Int)) (Bn)) ?_;refine pD (.bool false) (.bool false) ?_;refine pK ?_;refine pK ?_;refine pK ?_;refine pK ?_;refine pK ?_;refine pK ?_;refine pK ?_;refine pK ?_;refine pK ?_;refine pK ?_;refine pK ?_;refine pK ?_;refine pD (.bool false) (.bool false) ?_;refine zn (cK [2] (fun L => ?_));refine cw_ret (qw_ret [.bool false] rfl ⟨(by kernel_rfl), trivial⟩ ?_);exact ⟨rb ((show Rep.okR x = false from decide_eq_false (by omega)).symm), hE⟩
              ·
               refine pU (.bool false) (en ((x.w : Int) ≥ (1 : Int)) (Bm)) ?_;refine pD (.bool false) (.bool false) ?_;refine pK ?_;refine pK ?_;refine pK ?_;refine pD (.bool false) (.bool false) ?_;refine pK ?_;refine pK ?_;refine pK ?_;refine pK ?_;refine pK ?_;refine pK ?_;refine pK ?_;refine pK ?_;refine pK ?_;refine pK ?_;refine pK ?_;refine pK ?_;refine pD (.bool false) (.bool false) ?_;refine zn (cK [2] (fun L => ?_));refine cw_ret (qw_ret [.bool false] rfl ⟨(by kernel_rfl), trivial⟩ ?_);exact ⟨rb ((show Rep.okR x = false from decide_eq_false (by omega)).symm), hE⟩
             ·
              refine pU (.bool false) (en ((x.o : Int) ≤ (15 : Int)) (Bk)) ?_;refine pD (.bool false) (.bool false) ?_;refine pK ?_;refine pK ?_;refine pK ?_;refine pD (.bool false) (.bool false) ?_;refine pK ?_;refine pK ?_;refine pK ?_;refine pD (.bool false) (.bool false) ?_;refine pK ?_;refine pK ?_;refine pK ?_;refine pK ?_;refine pK ?_;refine pK ?_;refine pK ?_;refine pK ?_;refine pK ?_;refine pK ?_;refine pK ?_;refine pK ?_;refine pD (.bool false) (.bool false) ?_;refine zn (cK [2] (fun L => ?_));refine cw_ret (qw_ret [.bool false] rfl ⟨(by kernel_rfl), trivial⟩ ?_);exact ⟨rb ((show Rep.okR x = false from decide_eq_false (by omega)).symm), hE⟩
            ·
             refine pU (.bool false) (en ((x.o : Int) ≥ (0 : Int)) (Bj)) ?_;refine pT (.bool false) ?_;refine pK ?_;refine pK ?_;refine pK ?_;refine pD (.bool false) (.bool false) ?_;refine pK ?_;refine pK ?_;refine pK ?_;refine pD (.bool false) (.bool false) ?_;refine pK ?_;refine pK ?_;refine pK ?_;refine pD (.bool false) (.bool false) ?_;refine pK ?_;refine pK ?_;refine pK ?_;refine pK ?_;refine pK ?_;refine pK ?_;refine pK ?_;refine pK ?_;refine pK ?_;refine pK ?_;refine pK ?_;refine pK ?_;refine pD (.bool false) (.bool false) ?_;refine zn (cK [2] (fun L => ?_));refine cw_ret (qw_ret [.bool false] rfl ⟨(by kernel_rfl), trivial⟩ ?_);exact ⟨rb ((show Rep.okR x = false from decide_eq_false (by omega)).symm), hE⟩
          ·
           refine pU (.bool false) (eN (x.o : Int) (-1 : Int) (Bh)) ?_;refine pT (.bool false) ?_;refine pK ?_;refine pK ?_;refine pK ?_;refine pT (.bool false) ?_;refine zn (zf ?_);refine cw_skip (zq (zc (zp (pT (pw O1 3) ?_))));refine pU (iv x.o) (xl (ld3 (B0.1))) ?_
           by_cases Bq : (x.o : Int) ≥ (0 : Int)
           ·
            refine pU (.bool true) (ed ((x.o : Int) ≥ (0 : Int)) (Bq)) ?_;refine pD (.bool true) (pw O1 3) ?_;refine pU (iv x.o) (xl (ld3 (B0.1))) ?_
            by_cases Br : (x.o : Int) ≤ (15 : Int)
            ·
             refine pU (.bool true) (ed ((x.o : Int) ≤ (15 : Int)) (Br)) ?_;refine pD (.bool true) (.bool true) ?_;refine pT (pw O1 4) ?_;refine pU (iv x.w) (xl (ld3 (B2.1))) ?_
             by_cases Bs : (x.w : Int) ≥ (1 : Int)
             ·
              refine pU (.bool true) (ed ((x.w : Int) ≥ (1 : Int)) (Bs)) ?_;refine pD (.bool true) (.bool true) ?_;refine pT (pw O1 4) ?_;refine pU (iv x.w) (xl (ld3 (B2.1))) ?_
              by_cases Bt : (x.w : Int) ≤ (80 : Int)
              ·
               refine pU (.bool true) (ed ((x.w : Int) ≤ (80 : Int)) (Bt)) ?_;refine pD (.bool true) (.bool true) ?_;refine pT (pw O1 3) ?_;refine pU (iv x.o) (xl (ld3 (B0.1))) ?_;refine pT (pw O1 0) ?_;refine pU (iv x.c) (xl (ld3 (B3.1))) ?_
               by_cases Bu : (x.o : Int) = (x.c : Int)
               ·
                refine pU (.bool false) (ev_nne (show _ = Result.ok (Next.value (Value.bool ((x.o : Int) != (x.c : Int)))) _ from by kernel_rfl) (Bu)) ?_;refine pD (.bool false) (pw O1 4) ?_;refine pU (iv x.w) (xl (ld3 (B2.1))) ?_;refine pT (pw O1 1) ?_;refine pU (iv x.n) (xl (ld3 (B4.1))) ?_
                by_cases Bv : (x.w : Int) = (x.n : Int)
                ·
                 refine pU (.bool false) (ev_nne (show _ = Result.ok (Next.value (Value.bool ((x.w : Int) != (x.n : Int)))) _ from by kernel_rfl) (Bv)) ?_;refine pD (.bool false) (.bool false) ?_;refine pT (.bool false) ?_;refine zn (cK [2] (fun L => ?_));refine cw_ret (qw_ret [.bool false] rfl ⟨(by kernel_rfl), trivial⟩ ?_);exact ⟨rb ((show Rep.okR x = false from decide_eq_false (by omega)).symm), hE⟩
                ·
                 refine pU (.bool true) (eM (x.w : Int) (x.n : Int) (Bv)) ?_;refine pD (.bool true) (.bool true) ?_;refine pT (.bool true) ?_;refine zn (cK [2] (fun L => ?_));refine cw_ret (qw_ret [.bool true] rfl ⟨(by kernel_rfl), trivial⟩ ?_);exact ⟨rb ((show Rep.okR x = true from decide_eq_true (by omega)).symm), hE⟩
               ·
                refine pU (.bool true) (eM (x.o : Int) (x.c : Int) (Bu)) ?_;refine pT (.bool true) ?_;refine pK ?_;refine pK ?_;refine pK ?_;refine pK ?_;refine pK ?_;refine pD (.bool true) (.bool true) ?_;refine pT (.bool true) ?_;refine zn (cK [2] (fun L => ?_));refine cw_ret (qw_ret [.bool true] rfl ⟨(by kernel_rfl), trivial⟩ ?_);exact ⟨rb ((show Rep.okR x = true from decide_eq_true (by omega)).symm), hE⟩
              ·
               refine pU (.bool false) (en ((x.w : Int) ≤ (80 : Int)) (Bt)) ?_;refine pD (.bool false) (.bool false) ?_;refine pK ?_;refine pK ?_;refine pK ?_;refine pK ?_;refine pK ?_;refine pK ?_;refine pK ?_;refine pK ?_;refine pK ?_;refine pK ?_;refine pK ?_;refine pK ?_;refine pD (.bool false) (.bool false) ?_;refine zn (cK [2] (fun L => ?_));refine cw_ret (qw_ret [.bool false] rfl ⟨(by kernel_rfl), trivial⟩ ?_);exact ⟨rb ((show Rep.okR x = false from decide_eq_false (by omega)).symm), hE⟩
             ·
              refine pU (.bool false) (en ((x.w : Int) ≥ (1 : Int)) (Bs)) ?_;refine pD (.bool false) (.bool false) ?_;refine pK ?_;refine pK ?_;refine pK ?_;refine pD (.bool false) (.bool false) ?_;refine pK ?_;refine pK ?_;refine pK ?_;refine pK ?_;refine pK ?_;refine pK ?_;refine pK ?_;refine pK ?_;refine pK ?_;refine pK ?_;refine pK ?_;refine pK ?_;refine pD (.bool false) (.bool false) ?_;refine zn (cK [2] (fun L => ?_));refine cw_ret (qw_ret [.bool false] rfl ⟨(by kernel_rfl), trivial⟩ ?_);exact ⟨rb ((show Rep.okR x = false from decide_eq_false (by omega)).symm), hE⟩
            ·
             refine pU (.bool false) (en ((x.o : Int) ≤ (15 : Int)) (Br)) ?_;refine pD (.bool false) (.bool false) ?_;refine pK ?_;refine pK ?_;refine pK ?_;refine pD (.bool false) (.bool false) ?_;refine pK ?_;refine pK ?_;refine pK ?_;refine pD (.bool false) (.bool false) ?_;refine pK ?_;refine pK ?_;refine pK ?_;refine pK ?_;refine pK ?_;refine pK ?_;refine pK ?_;refine pK ?_;refine pK ?_;refine pK ?_;refine pK ?_;refine pK ?_;refine pD (.bool false) (.bool false) ?_;refine zn (cK [2] (fun L => ?_));refine cw_ret (qw_ret [.bool false] rfl ⟨(by kernel_rfl), trivial⟩ ?_);exact ⟨rb ((show Rep.okR x = false from decide_eq_false (by omega)).symm), hE⟩
           ·
            refine pU (.bool false) (en ((x.o : Int) ≥ (0 : Int)) (Bq)) ?_;refine pT (.bool false) ?_;refine pK ?_;refine pK ?_;refine pK ?_;refine pD (.bool false) (.bool false) ?_;refine pK ?_;refine pK ?_;refine pK ?_;refine pD (.bool false) (.bool false) ?_;refine pK ?_;refine pK ?_;refine pK ?_;refine pD (.bool false) (.bool false) ?_;refine pK ?_;refine pK ?_;refine pK ?_;refine pK ?_;refine pK ?_;refine pK ?_;refine pK ?_;refine pK ?_;refine pK ?_;refine pK ?_;refine pK ?_;refine pK ?_;refine pD (.bool false) (.bool false) ?_;refine zn (cK [2] (fun L => ?_));refine cw_ret (qw_ret [.bool false] rfl ⟨(by kernel_rfl), trivial⟩ ?_);exact ⟨rb ((show Rep.okR x = false from decide_eq_false (by omega)).symm), hE⟩
theorem rlisted_c (a b : Rec) (w : World) : Calls Tryz.prog 78 #[.agg #[iv a.c, iv a.n, iv a.t, iv a.o, iv a.w, iv a.k, .string a.x], .agg #[iv b.c, iv b.n, iv b.t, iv b.o, iv b.w, iv b.k, .string b.x]] w fun e w' => e = .returned (.bool (decide (Rep.ltL a b))) ∧ Ext w w' := by
 refine calls_cw 24 [(1, .agg #[iv b.c, iv b.n, iv b.t, iv b.o, iv b.w, iv b.k, .string b.x]), (0, .agg #[iv a.c, iv a.n, iv a.t, iv a.o, iv a.w, iv a.k, .string a.x])] Tryz.func78 rfl Tryz.ntmps78 (by kernel_rfl) (by kernel_rfl) (fun L => ?_);have hE := Ext.refl w;refine zc (zp (pS (sw 49 #[iv a.c, iv a.n, iv a.t, iv a.o, iv a.w, iv a.k, .string a.x] ?_)));intro O1 X2 Bp Bn hb hbx;have ⟨B0, B2, B4, B7, B8, Ba, Bb⟩ := bq7 hbx;replace hE := hE.trans hb;have Bs := hb.size;have Bu := B0.lt;refine pS (sw 49 #[iv b.c, iv b.n, iv b.t, iv b.o, iv b.w, iv b.k, .string b.x] ?_);intro O5 X6 Bq Bo hb hbx;have ⟨B3, Bc, Bh, Bi, Bj, Bk, Bm⟩ := bq7 hbx;refine mv3 hb hE B0 B2 fun hE B0 B2=>?_;have Bt := hb.size;have Bv := B3.lt;refine pT (.bool false) ?_;refine pl_nil (qw_then ?_);refine cw_seq ?_;have Br := Ext.refl X6;refine zp (pT (pw O1 0) ?_);refine pU (iv a.c) (xl (ld3 (B0.1))) ?_;refine pT (pw O5 0) ?_;refine pU (iv b.c) (xl (ld3 (B3.1))) ?_
 by_cases Be : (a.c : Int) < (b.c : Int)
 ·
  refine pU (.bool true) (ed ((a.c : Int) < (b.c : Int)) (Be)) ?_;refine pT (.bool true) ?_;refine pK ?_;refine pK ?_;refine pK ?_;refine pK ?_;refine pK ?_;refine pK ?_;refine pK ?_;refine pK ?_;refine pK ?_;refine pK ?_;refine pK ?_;refine pK ?_;refine pD (.bool true) (.bool true) ?_;refine zn (cK [4] (fun L => ?_));refine cw_ret (qw_ret [.bool true] rfl ⟨(by kernel_rfl), trivial⟩ ?_);exact ⟨rb ((show decide (Rep.ltL a b) = true from decide_eq_true (by unfold Rep.ltL; omega)).symm), hE⟩
 ·
  refine pU (.bool false) (en ((a.c : Int) < (b.c : Int)) (Be)) ?_;refine pD (.bool false) (pw O1 0) ?_;refine pU (iv a.c) (xl (ld3 (B0.1))) ?_;refine pT (pw O5 0) ?_;refine pU (iv b.c) (xl (ld3 (B3.1))) ?_
  by_cases Bf : (a.c : Int) = (b.c : Int)
  ·
   refine pU (.bool true) (eE (a.c : Int) (b.c : Int) (Bf)) ?_;refine pD (.bool true) (pw O1 1) ?_;refine pU (iv a.n) (xl (ld3 (B2.1))) ?_;refine pT (pw O5 1) ?_;refine pU (iv b.n) (xl (ld3 (Bc.1))) ?_
   by_cases Bg : (a.n : Int) < (b.n : Int)
   ·
    refine pU (.bool true) (ed ((a.n : Int) < (b.n : Int)) (Bg)) ?_;refine pD (.bool true) (.bool true) ?_;refine pT (.bool true) ?_;refine zn (cK [4] (fun L => ?_));refine cw_ret (qw_ret [.bool true] rfl ⟨(by kernel_rfl), trivial⟩ ?_);exact ⟨rb ((show decide (Rep.ltL a b) = true from decide_eq_true (by unfold Rep.ltL; omega)).symm), hE⟩
   ·
    refine pU (.bool false) (en ((a.n : Int) < (b.n : Int)) (Bg)) ?_;refine pD (.bool false) (.bool false) ?_;refine pT (.bool false) ?_;refine zn (cK [4] (fun L => ?_));refine cw_ret (qw_ret [.bool false] rfl ⟨(by kernel_rfl), trivial⟩ ?_);exact ⟨rb ((show decide (Rep.ltL a b) = false from decide_eq_false (by unfold Rep.ltL; omega)).symm), hE⟩
  ·
   refine pU (.bool false) (eN (a.c : Int) (b.c : Int) (Bf)) ?_;refine pT (.bool false) ?_;refine pK ?_;refine pK ?_;refine pK ?_;refine pK ?_;refine pK ?_;refine pD (.bool false) (.bool false) ?_;refine pT (.bool false) ?_;refine zn (cK [4] (fun L => ?_));refine cw_ret (qw_ret [.bool false] rfl ⟨(by kernel_rfl), trivial⟩ ?_);exact ⟨rb ((show decide (Rep.ltL a b) = false from decide_eq_false (by unfold Rep.ltL; omega)).symm), hE⟩
theorem rlisted_r (a b : Rec) {r : Bool} (w : World) (hr : decide (Rep.ltL a b) = r) : Calls Tryz.prog 78 #[.agg #[.int .i64 a.c, .int .i64 a.n, .int .i64 a.t, .int .i64 a.o, .int .i64 a.w, .int .i64 a.k, .string a.x], .agg #[.int .i64 b.c, .int .i64 b.n, .int .i64 b.t, .int .i64 b.o, .int .i64 b.w, .int .i64 b.k, .string b.x]] w fun e w' => e = .returned (.bool r) ∧ Ext w w' := hr ▸ rlisted_c a b w
theorem rBefore_c (a b : Rec) (w : World) : Calls Tryz.prog 39 #[.agg #[iv a.c, iv a.n, iv a.t, iv a.o, iv a.w, iv a.k, .string a.x], .agg #[iv b.c, iv b.n, iv b.t, iv b.o, iv b.w, iv b.k, .string b.x]] w fun e w' => e = .returned (.bool (decide (Rep.ltB a b))) ∧ Ext w w' := by
 refine calls_cw 18 [(1, .agg #[iv b.c, iv b.n, iv b.t, iv b.o, iv b.w, iv b.k, .string b.x]), (0, .agg #[iv a.c, iv a.n, iv a.t, iv a.o, iv a.w, iv a.k, .string a.x])] Tryz.func39 rfl Tryz.ntmps39 (by kernel_rfl) (by kernel_rfl) (fun L => ?_);have hE := Ext.refl w;refine zc (zp (pS (sw 49 #[iv a.c, iv a.n, iv a.t, iv a.o, iv a.w, iv a.k, .string a.x] ?_)));intro O1 X2 Bq Bo hb hbx;have ⟨B2, B3, B0, B4, B7, B8, Ba⟩ := bq7 hbx;replace hE := hE.trans hb;have Bs := hb.size;have Bu := B2.lt;refine pS (sw 49 #[iv b.c, iv b.n, iv b.t, iv b.o, iv b.w, iv b.k, .string b.x] ?_);intro O5 X6 Br Bp hb hbx;have ⟨Bc, Be, Bb, Bf, Bg, Bh, Bi⟩ := bq7 hbx;refine mv7 hb hE B2 B3 B0 B4 B7 B8 fun hE B2 B3 B0 B4 B7 B8=>?_;replace Ba := Ba.x hb;have Bt := hb.size;have Bv := Bc.lt;refine pT (.bool false) ?_;refine zn (cw_seq ?_);refine cw_seq ?_;have Bm := Ext.refl X6;refine zp (pT (pw O1 2) ?_);refine pU (iv a.t) (xl (ld3 (B0.1))) ?_;refine pT (pw O5 2) ?_;refine pU (iv b.t) (xl (ld3 (Bb.1))) ?_
 by_cases Bj : (a.t : Int) = (b.t : Int)
 ·
  refine pU (.bool false) (ev_nne (show _ = Result.ok (Next.value (Value.bool ((a.t : Int) != (b.t : Int)))) _ from by kernel_rfl) (Bj)) ?_;refine zn (zf ?_);refine cw_skip (zq (zc (zp (pU (.agg #[iv a.c, iv a.n, iv a.t, iv a.o, iv a.w, iv a.k, .string a.x]) (xl (ld49 (B2.1) (B3.1) (B0.1) (B4.1) (B7.1) (B8.1) (Ba.1))) ?_))));refine pU (.agg #[iv b.c, iv b.n, iv b.t, iv b.o, iv b.w, iv b.k, .string b.x]) (xl (ld49 (Bc.1) (Be.1) (Bb.1) (Bf.1) (Bg.1) (Bh.1) (Bi.1))) ?_;refine pS (sc 78 #[.agg #[iv a.c, iv a.n, iv a.t, iv a.o, iv a.w, iv a.k, .string a.x], .agg #[iv b.c, iv b.n, iv b.t, iv b.o, iv b.w, iv b.k, .string b.x]] ((rlisted_c a b _).mono ?_));rintro e Bw ⟨rfl, hb⟩;replace hE := hE.trans hb;have Bn := hb.size;refine ⟨_, rfl, pT (.bool (decide (Rep.ltL a b))) ?_⟩;refine zn (cw_ret (qw_ret [.bool (decide (Rep.ltL a b))] rfl ⟨(by kernel_rfl), trivial⟩ ?_));exact ⟨rb ((show decide (Rep.ltB a b) = decide (Rep.ltL a b) from decide_eq_decide.2 (by unfold Rep.ltB Rep.ltL; omega)).symm), hE⟩
 ·
  refine pU (.bool true) (eM (a.t : Int) (b.t : Int) (Bj)) ?_;refine zn (zt ?_);refine zc (zp (pT (pw O1 2) ?_));refine pU (iv a.t) (xl (ld3 (B0.1))) ?_;refine pT (pw O5 2) ?_;refine pU (iv b.t) (xl (ld3 (Bb.1))) ?_
  by_cases Bk : (a.t : Int) < (b.t : Int)
  ·
   refine pU (.bool true) (ed ((a.t : Int) < (b.t : Int)) (Bk)) ?_;refine pT (.bool true) ?_;refine zn (cK [4] (fun L => ?_));refine cw_ret (qw_then_ret (qw_ret [.bool true] rfl ⟨(by kernel_rfl), trivial⟩ ?_));exact ⟨rb ((show decide (Rep.ltB a b) = true from decide_eq_true (by unfold Rep.ltB Rep.ltL; omega)).symm), hE⟩
  ·
   refine pU (.bool false) (en ((a.t : Int) < (b.t : Int)) (Bk)) ?_;refine pT (.bool false) ?_;refine zn (cK [4] (fun L => ?_));refine cw_ret (qw_then_ret (qw_ret [.bool false] rfl ⟨(by kernel_rfl), trivial⟩ ?_));exact ⟨rb ((show decide (Rep.ltB a b) = false from decide_eq_false (by unfold Rep.ltB Rep.ltL; omega)).symm), hE⟩
theorem rBefore_r (a b : Rec) {r : Bool} (w : World) (hr : decide (Rep.ltB a b) = r) : Calls Tryz.prog 39 #[.agg #[.int .i64 a.c, .int .i64 a.n, .int .i64 a.t, .int .i64 a.o, .int .i64 a.w, .int .i64 a.k, .string a.x], .agg #[.int .i64 b.c, .int .i64 b.n, .int .i64 b.t, .int .i64 b.o, .int .i64 b.w, .int .i64 b.k, .string b.x]] w fun e w' => e = .returned (.bool r) ∧ Ext w w' := hr ▸ rBefore_c a b w
theorem rFormed_r (x : Rec) {r : Bool} (w : World) (hr : Rep.okR x = r) : Calls Tryz.prog 56 #[.agg #[.int .i64 x.c, .int .i64 x.n, .int .i64 x.t, .int .i64 x.o, .int .i64 x.w, .int .i64 x.k, .string x.x]] w fun e w' => e = .returned (.bool r) ∧ Ext w w' := hr ▸ rFormed_c x w
theorem Find_c {w0 : World} {a : Option Addr} {n : Nat} {l : List Rec} (k : Nat) (c mm : Int) (w : World) (H : RecsAt w0 a n l) (e0 : Ext w0 w) : Calls Tryz.prog 38 #[.slice a n k, iv c, iv mm] w fun e w' => e = .returned (iv (Rep.posK l (c, mm))) ∧ Ext w w' := by
 replace H := H.ext e0;clear e0;obtain ⟨b, o, ha, hbr, hx⟩ := H.parts;have hln := H.len;have hmx := H.max;refine calls_cw 31 [(2, iv mm), (1, iv c), (0, .slice a n k)] Tryz.func38 rfl Tryz.ntmps38 (by kernel_rfl) (by kernel_rfl) (fun L => ?_);have hE := Ext.refl w;refine zc (zp (pT (iv 0) ?_));refine zn (zc (zc (zp (pT (iv 0) ?_))));refine zn (cw_block ?_);refine cw_loop [0, 1, 2, 7] (fun ws' wr m => ∃ i : Nat, ws' = [(0, .slice a n k), (1, iv c), (2, iv mm), (7, iv i)] ∧ m = n - i ∧ w.heap.size ≤ wr.heap.size ∧ Ext w wr ∧ i ≤ n ∧ (∀ j, j < i → decide ((recN l j).key = (c, mm)) = false)) (ws0 := [(0, .slice a n k), (1, iv c), (2, iv mm), (7, iv 0)]) (by kernel_rfl) _ ⟨0, rfl, rfl, Nat.le_refl _, hE, Nat.zero_le _, (fun j hj => absurd hj (Nat.not_lt_zero j))⟩ ?_;clear hE;rintro m3 L ws w2 ⟨i, rfl, rfl, B3, hE, hi, hno⟩
 by_cases hlt : i < n
 ·
  obtain rfl := ha (by omega);have hbl := hbr (by omega);refine zc (zc (zp (pD (iv i) (sv b o n k) ?_)));refine pT (iv n) ?_;refine pU (.bool true) (ed (((i : Nat) : Int) < ((n : Nat) : Int)) (by omega)) ?_;refine zn (zt ?_);refine cw_skip (zq (zc (cw_block ?_)));refine cw_seq ?_
  by_cases hq : (recN l i).c = c ∧ (recN l i).n = mm
  ·
   refine zp (pD (sv b o n k) (iv i) ?_);refine pU (pw b (o + i * 7)) (xi (sv b o n k) (iv i) (ix23 (k := i) (by omega))) ?_;refine pT (pw b (o + i * 7)) ?_;refine pU (iv ((recN l i).c : Int)) (xl (ld3 ((hx.ext hE).c0 (i := i) (by omega)))) ?_;refine pT (iv c) ?_;refine pU (.bool true) (eE ((recN l i).c : Int) (c : Int) (hq.1)) ?_;refine pD (.bool true) (sv b o n k) ?_;refine pT (iv i) ?_;refine pU (pw b (o + i * 7)) (xi (sv b o n k) (iv i) (ix23 (k := i) (by omega))) ?_;refine pT (pw b (o + i * 7 + 1)) ?_;refine pU (iv ((recN l i).n : Int)) (xl (ld3 ((hx.ext hE).c1 (i := i) (by omega)))) ?_;refine pT (iv mm) ?_;refine pU (.bool true) (eE ((recN l i).n : Int) (mm : Int) (hq.2)) ?_;refine pT (.bool true) ?_;refine zn (cK [0,1,2,7,29] (fun L => ?_));refine zt ?_;refine zc (zp (pD (iv i) (iv i) ?_));refine zn (cw_ret (qw_block_ret (qw_then_ret (qw_then_ret (qw_block_ret (qw_then_ret (qw_ret [iv i] rfl ⟨(by kernel_rfl), trivial⟩ ?_)))))));exact ⟨congrArg (fun z => Ending.returned (Value.int .i64 z)) (Rep.ix_found (by omega) hno (decide_eq_true (Prod.ext hq.1 hq.2))).symm, hE⟩
  ·
   refine zp (pD (sv b o n k) (iv i) ?_);refine pU (pw b (o + i * 7)) (xi (sv b o n k) (iv i) (ix23 (k := i) (by omega))) ?_;refine pT (pw b (o + i * 7)) ?_;refine pU (iv ((recN l i).c : Int)) (xl (ld3 ((hx.ext hE).c0 (i := i) (by omega)))) ?_;refine pT (iv c) ?_
   by_cases B0 : ((recN l i).c : Int) = (c : Int)
   ·
    refine pU (.bool true) (eE ((recN l i).c : Int) (c : Int) (B0)) ?_;refine pD (.bool true) (sv b o n k) ?_;refine pT (iv i) ?_;refine pU (pw b (o + i * 7)) (xi (sv b o n k) (iv i) (ix23 (k := i) (by omega))) ?_;refine pT (pw b (o + i * 7 + 1)) ?_;refine pU (iv ((recN l i).n : Int)) (xl (ld3 ((hx.ext hE).c1 (i := i) (by omega)))) ?_;refine pT (iv mm) ?_
    by_cases B2 : ((recN l i).n : Int) = (mm : Int)
    ·
     refine pU (.bool true) (eE ((recN l i).n : Int) (mm : Int) (B2)) ?_;refine pT (.bool true) ?_;refine zn (cK [0,1,2,7,29] (fun L => ?_));refine zt ?_;refine zc (zp (pD (iv i) (iv i) ?_));refine zn (cw_ret (qw_block_ret (qw_then_ret (qw_then_ret (qw_block_ret (qw_then_ret (qw_ret [iv i] rfl ⟨(by kernel_rfl), trivial⟩ ?_)))))));exact absurd ⟨by assumption, by assumption⟩ hq
    ·
     refine pU (.bool false) (eN ((recN l i).n : Int) (mm : Int) (B2)) ?_;refine pT (.bool false) ?_;refine zn (cK [0,1,2,7,29] (fun L => ?_));refine zf ?_;refine cw_skip (qw_block (zq (zp (pT (iv i) ?_))));refine pU (iv ((i + 1 : Nat) : Int)) (ew (by omega) (by omega)) ?_;refine pT (iv ((i + 1 : Nat) : Int)) ?_;refine pl_nil (zr [0, 1, 2, 7] _ ?_ ⟨(i + 1), rfl, rfl, B3, hE, by omega, (fun j hj => by rcases Nat.lt_succ_iff_lt_or_eq.1 hj with h | h; exact hno j h; rw [h]; exact decide_eq_false (fun e => hq (Prod.mk.inj e)))⟩);omega
   ·
    refine pU (.bool false) (eN ((recN l i).c : Int) (c : Int) (B0)) ?_;refine pT (.bool false) ?_;refine pK ?_;refine pK ?_;refine pK ?_;refine pK ?_;refine pK ?_;refine pK ?_;refine pK ?_;refine pT (.bool false) ?_;refine zn (cK [0,1,2,7,29] (fun L => ?_));refine zf ?_;refine cw_skip (qw_block (zq (zp (pT (iv i) ?_))));refine pU (iv ((i + 1 : Nat) : Int)) (ew (by omega) (by omega)) ?_;refine pT (iv ((i + 1 : Nat) : Int)) ?_;refine pl_nil (zr [0, 1, 2, 7] _ ?_ ⟨(i + 1), rfl, rfl, B3, hE, by omega, (fun j hj => by rcases Nat.lt_succ_iff_lt_or_eq.1 hj with h | h; exact hno j h; rw [h]; exact decide_eq_false (fun e => hq (Prod.mk.inj e)))⟩);omega
 ·
  refine zc (zc (zp (pD (iv i) (.slice a n k) ?_)));refine pT (iv n) ?_;refine pU (.bool false) (en (((i : Nat) : Int) < ((n : Nat) : Int)) (by omega)) ?_;refine zn (zf ?_);refine cw_exit (qw_then_exit (qw_then_exit (qw_block_out (zq (zc (zp (pT (iv (-1 : Int)) ?_)))))));refine zn (cw_ret (qw_ret [iv (-1 : Int)] rfl ⟨(by kernel_rfl), trivial⟩ ?_));exact ⟨congrArg (fun z => Ending.returned (Value.int .i64 z)) (Rep.ix_none fun j hj => hno j (by omega)).symm, hE⟩
theorem Find_x {w0 : World} {a : Option Addr} {n : Nat} {l : List Rec} (k : Nat) (c mm : Int) (w : World) (H : RecsAt w0 a n l) (e0 : Ext w0 w) : Calls Tryz.prog 38 #[.slice a n k, .int .i64 c, .int .i64 mm] w fun e w' => ∃ z, e = .returned (.int .i64 z) ∧ ((z = -1 ∧ Rep.findK l (c, mm) = none) ∨ ∃ i : Nat, z = (i : Int) ∧ i < n ∧ Rep.findK l (c, mm) = some (recN l i)) ∧ Ext w w' :=
 (Find_c k c mm w H e0).mono fun _ _ ⟨h1, h2⟩ => ⟨_, h1, by have := Rep.pos_cases l (c, mm); rwa [H.len] at this, h2⟩
end Go.Proofs.YtfmoabgjaclkpaaGreatDoor
