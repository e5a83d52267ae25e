/- The statement ReplicaCorrected: for every input that the row lists, the law returns true, and every argument reads as it read before. -/
import Derived.Test.YtfmoabgjaclkpaaGreatDoorV6ReplicaCorrected
import Derived.Test.YtfmoabgjaclkpaaGreatDoorTie
import Derived.Test.YtfmoabgjaclkpaaGreatDoorCards
import Derived.ProofKit
import Derived.OpenShut
import Derived.ChangeOld
import Derived.LaidMore
import Derived.Stop.Joined
import Derived.Stop.LaidErr
import Derived.Lib.LaidTab
import Derived.SevenTiedAt
import Derived.Deep.Slices
import Derived.ChangeMaps5
namespace Go.Proofs.YtfmoabgjaclkpaaGreatDoor
set_option maxRecDepth 1000000
set_option maxHeartbeats 4000000
set_option synthInstance.maxHeartbeats 0
set_option synthInstance.maxSize 9999
open Go.RowKit
def Tz61_0 : List Row := [(some 17, [0], []), (some 18, [5], []), (some 19, [17, 18], [0, 1]), (some 20, [19], [2]), (some 21, [20], [3]), (some 22, [1], []), (some 23, [5], []), (some 24, [22, 23], [5, 6]), (some 25, [24], [7]), (some 26, [21, 25], [4, 8])]
def Tz61_1 : List Row := [(some 13, [0], []), (some 14, [1], []), (some 15, [5], []), (some 16, [14, 15], [1, 2]), (some 17, [16], [3]), (some 18, [17], [4]), (some 19, [1], []), (some 20, [5], []), (some 21, [19, 20], [6, 7]), (some 22, [21], [8]), (some 23, [22], [9]), (some 24, [13, 18, 23], [0, 5, 10]), (some 6, [24], [11, 11, 0, 1, 2, 3, 4, 5, 6, 7, 8, 9, 10, 11])]
def Tz61_2 : List Row := [(some 27, [0], []), (some 28, [6], []), (some 29, [27, 28], [0, 1]), (some 30, [29], [2]), (some 31, [1], []), (some 32, [5], []), (some 33, [31, 32], [4, 5]), (some 34, [33], [6]), (some 35, [30, 34], [3, 7])]
structure TxtB (w : World) (B n : Nat) (l : List Rec) : Prop where
 at_ : ∀ i, i < n → w.cell? ⟨B, i, none⟩ = some (.string (recN l i).x)
theorem TxtB.ext {w w' : World} {B n : Nat} {l : List Rec} (h : TxtB w B n l) (e : Ext w w') : TxtB w' B n l := ⟨fun i hi => e.cell (h.at_ i hi)⟩
namespace Rep
def keepsB (l1 l2 : List Rec) : Bool := decide (∀ x ∈ l2, x ∈ l1)
theorem keeps_t {l1 l2 : List Rec} (h : ∀ x ∈ l2, x ∈ l1) : keepsB l1 l2 = true := decide_eq_true h
theorem keeps_f {l1 l2 : List Rec} {x : Rec} (h : x ∈ l2) (k : x ∉ l1) : keepsB l1 l2 = false := decide_eq_false fun q => k (q x h)
theorem keeps_one {l : List Rec} {x : Rec} : keepsB l [x] = decide (x ∈ l) := decide_eq_decide.2 ⟨fun h => h x (List.mem_singleton.2 rfl), fun h y hy => by rw [List.mem_singleton.1 hy]; exact h⟩
end Rep
theorem texts_y {w0 : World} {a : Option Addr} {n B : Nat} {l : List Rec} (k c : Nat) (w : World) (H : RecsAt w0 a n l) (e0 : Ext w0 w) (hs : TxtB w B n l) : Calls Tryz.prog 41 #[.slice a n k, sv B 0 n c] w fun e w' => e = .returned (.bool true) ∧ Ext w w' := by
 replace H := H.ext e0;clear e0;obtain ⟨b, o, ha, hbr, hx⟩ := H.parts;have hln := H.len;have hmx := H.max;refine calls_cw 27 [(1, sv B 0 n c), (0, .slice a n k)] Tryz.func41 rfl Tryz.ntmps41 (by kernel_rfl) (by kernel_rfl) (fun L => ?_);have hE := Ext.refl w;refine zc (zp (pT (.bool false) ?_));refine zn (zc (zc (zp (pD (.slice a n k) (iv n) ?_))));refine pD (sv B 0 n c) (iv n) ?_;refine pU (.bool false) (ev_nne (show _ = Result.ok (Next.value (Value.bool (((n : Nat) : Int) != ((n : Nat) : Int)))) _ from by kernel_rfl) (by omega)) ?_;refine zn (zf ?_);refine cw_skip (zq (zc (zc (zp (pT (iv 0) ?_)))));refine zn (cw_block ?_);refine cw_loop [0, 1, 5] (fun ws' wr m => ∃ i : Nat, ws' = [(0, .slice a n k), (1, sv B 0 n c), (5, iv i)] ∧ m = n - i ∧ w.heap.size ≤ wr.heap.size ∧ Ext w wr ∧ i ≤ n) (ws0 := [(0, .slice a n k), (1, sv B 0 n c), (5, iv 0)]) (by kernel_rfl) _ ⟨0, rfl, rfl, Nat.le_refl _, hE, Nat.zero_le _⟩ ?_;clear hE;rintro m3 L ws w2 ⟨i, rfl, rfl, B0, hE, hi⟩
 by_cases hlt : i < n
 ·
  obtain rfl := ha (by omega);have hbl := hbr (by omega);refine zc (zc (zp (pD (iv i) (sv b o n k) ?_)));refine pT (iv n) ?_;refine pU (.bool true) (ed (((i : Nat) : Int) < ((n : Nat) : Int)) (by omega)) ?_;refine zn (zt ?_);refine cw_skip (zq (zc (cw_block ?_)));refine zc (dE Tz61_0 (fun w' => w'.cell? ⟨b, o + i * 7 + 6, none⟩ = some (.string ((recN l i).x)) ∧ w'.cell? ⟨B, i, none⟩ = some (.string ((recN l i).x))) (⟨(hx.ext hE).c6 (i := i) (by omega), (hs.ext hE).at_ i (by omega)⟩) (fun ops Q X4 hb hL hR hK => ?_));replace hE := hE.trans hb;have B2 := hb.size;have hS := A2 ((hx.ext hE).c6 (i := i) (by omega)) ((hs.ext hE).at_ i (by omega));refine wW 0 (sv b o n k) 1 (iv i) hR hS ?_;refine wL 2 (pw b (o + i * 7)) hR (fun w _ => ex_index (p := sv b o n k) (i := iv i) rfl (by kernel_rfl) (by kernel_rfl) (ix23 (k := i) (by omega))) hS ?_;refine wV 3 (pw b (o + i * 7 + 6)) hR hS ?_;refine wM 4 (.string ((recN l i).x)) hR (fun w hS => ld9 (hS.1)) hS ?_;refine wW 5 (sv B 0 n c) 6 (iv i) hR hS ?_;refine wL 7 (pw B i) hR (fun w _ => ex_index (p := sv B 0 n c) (i := iv i) rfl (by kernel_rfl) (by kernel_rfl) (ix62z (k := i) (by omega))) hS ?_;refine wM 8 (.string ((recN l i).x)) hR (fun w hS => ld9 (hS.2)) hS ?_;refine wL 9 (.bool false) hR (fun w _ => ex_binV (a := .string ((recN l i).x)) (b := .string ((recN l i).x)) rfl (by kernel_rfl) (by kernel_rfl) eqG_str (bin_nqs_t rfl)) hS ?_;refine we hL hR hK ?_;refine zq (cK [0,1,5,26] (fun L => ?_));refine zf ?_;refine cw_skip (qw_block (zq (zp (pT (iv i) ?_))));refine pU (iv ((i + 1 : Nat) : Int)) (ew (by omega) (by omega)) ?_;refine pT (iv ((i + 1 : Nat) : Int)) ?_;refine pl_nil (zr [0, 1, 5] _ ?_ ⟨(i + 1), rfl, rfl, (T B0 B2), hE, by omega⟩);omega
 ·
  refine zc (zc (zp (pD (iv i) (.slice a n k) ?_)));refine pT (iv n) ?_;refine pU (.bool false) (en (((i : Nat) : Int) < ((n : Nat) : Int)) (by omega)) ?_;refine zn (zf ?_);refine cw_exit (qw_then_exit (qw_then_exit (qw_block_out (zq (zc (zp (pT (.bool true) ?_)))))));refine zn (cw_ret (qw_ret [.bool true] rfl ⟨(by kernel_rfl), trivial⟩ ?_));exact ⟨rfl, hE⟩
theorem keeps_c {w1 w2 : World} {a1 a2 : Option Addr} {n1 n2 : Nat} {l1 l2 : List Rec} (c1 c2 : Nat) (w : World) (H1 : RecsAt w1 a1 n1 l1) (e1 : Ext w1 w) (H2 : RecsAt w2 a2 n2 l2) (e2 : Ext w2 w) (hd : Rep.keysD l1) : Calls Tryz.prog 37 #[.slice a1 n1 c1, .slice a2 n2 c2] w fun e w' => e = .returned (.bool (Rep.keepsB l1 l2)) ∧ Ext w w' := by
 replace H1 := H1.ext e1;clear e1;replace H2 := H2.ext e2;clear e2;obtain ⟨b1, o1, B7, B3, B2⟩ := H1.parts;have Bc := H1.len;have Bg := H1.max;obtain ⟨b2, o2, B8, B4, B0⟩ := H2.parts;have Be := H2.len;have Bh := H2.max;have Bf := H1.max;refine calls_cw 36 [(1, .slice a2 n2 c2), (0, .slice a1 n1 c1)] Tryz.func37 rfl Tryz.ntmps37 (by kernel_rfl) (by kernel_rfl) (fun L => ?_);have hE := Ext.refl w;refine zc (zp (pT (.bool false) ?_));refine zn (zc (zc (zp (pT (iv 0) ?_))));refine zn (cw_block ?_);refine cw_loop [0, 1, 5] (fun ws' wr m => ∃ i : Nat, ws' = [(0, .slice a1 n1 c1), (1, .slice a2 n2 c2), (5, iv i)] ∧ m = n2 - i ∧ w.heap.size ≤ wr.heap.size ∧ Ext w wr ∧ i ≤ n2 ∧ (∀ j, j < i → recN l2 j ∈ l1)) (ws0 := [(0, .slice a1 n1 c1), (1, .slice a2 n2 c2), (5, iv 0)]) (by kernel_rfl) _ ⟨0, rfl, rfl, Nat.le_refl _, hE, Nat.zero_le _, (fun j hj => absurd hj (Nat.not_lt_zero j))⟩ ?_;clear hE;rintro m3 L ws w2 ⟨i, rfl, rfl, Bi, hE, hi, hno⟩
 by_cases hlt : i < n2
 ·
  obtain rfl := B8 (by omega);have Bb := B4 (by omega);refine zc (zc (zp (pD (iv i) (sv b2 o2 n2 c2) ?_)));refine pT (iv n2) ?_;refine pU (.bool true) (ed (((i : Nat) : Int) < ((n2 : Nat) : Int)) (by omega)) ?_;refine zn (zt ?_);refine cw_skip (zq (zc (cw_block ?_)));refine zc (dE Tz61_1 (fun w' => w'.cell? ⟨b2, o2 + i * 7, none⟩ = some (iv ((recN l2 i).c : Int)) ∧ w'.cell? ⟨b2, o2 + i * 7 + 1, none⟩ = some (iv ((recN l2 i).n : Int))) (⟨(B0.ext hE).c0 (i := i) (by omega), (B0.ext hE).c1 (i := i) (by omega)⟩) (fun ops Q X4 hb hL hR hK => ?_));replace hE := hE.trans hb;have Bk := hb.size;have hS := A2 ((B0.ext hE).c0 (i := i) (by omega)) ((B0.ext hE).c1 (i := i) (by omega));refine wW 0 (.slice a1 n1 c1) 1 (sv b2 o2 n2 c2) hR hS ?_;refine wV 2 (iv i) hR hS ?_;refine wL 3 (pw b2 (o2 + i * 7)) hR (fun w _ => ex_index (p := sv b2 o2 n2 c2) (i := iv i) rfl (by kernel_rfl) (by kernel_rfl) (ix23 (k := i) (by omega))) hS ?_;refine wV 4 (pw b2 (o2 + i * 7)) hR hS ?_;refine wM 5 (iv ((recN l2 i).c : Int)) hR (fun w hS => ld3 (hS.1)) hS ?_;refine wW 6 (sv b2 o2 n2 c2) 7 (iv i) hR hS ?_;refine wL 8 (pw b2 (o2 + i * 7)) hR (fun w _ => ex_index (p := sv b2 o2 n2 c2) (i := iv i) rfl (by kernel_rfl) (by kernel_rfl) (ix23 (k := i) (by omega))) hS ?_;refine wV 9 (pw b2 (o2 + i * 7 + 1)) hR hS ?_;refine wM 10 (iv ((recN l2 i).n : Int)) hR (fun w hS => ld3 (hS.2)) hS ?_;refine wC 11 38 #[.slice a1 n1 c1, iv ((recN l2 i).c : Int), iv ((recN l2 i).n : Int)] hR ((Find_x _ (recN l2 i).c (recN l2 i).n _ (H1.ext hE) (Ext.refl _)).mono ?_);rintro e w6 ⟨z, rfl, Bo, hb⟩;replace hE := hE.trans hb;have Bm := hb.size;have hS := A2 ((B0.ext hE).c0 (i := i) (by omega)) ((B0.ext hE).c1 (i := i) (by omega));refine ⟨_, rfl, hS, ?_⟩;refine wV 12 (iv z) hR hS ?_;refine we hL hR hK ?_;refine zq (cK [0,1,5,6] (fun L => ?_));refine zc (cw_seq ?_);rcases Bo with ⟨rfl, hfn⟩ | ⟨j, rfl, hj, hfn⟩
  ·
   refine zp (pD (iv (-1 : Int)) (.bool true) ?_);refine zn (zt ?_);refine zc (zp (pT (.bool false) ?_));refine zn (cw_ret (qw_then_ret (qw_block_ret (qw_then_ret (qw_then_ret (qw_block_ret (qw_then_ret (qw_ret [.bool false] rfl ⟨(by kernel_rfl), trivial⟩ ?_))))))));exact ⟨rb (Rep.keeps_f (recN_mem (i := i) (by omega)) fun q => Rep.findK_none hfn _ q rfl).symm, hE⟩
  ·
   obtain rfl := B7 (by omega);have Ba := B3 (by omega);refine zp (pT (iv j) ?_);refine pU (.bool false) (en (((j : Nat) : Int) < (0 : Int)) (by omega)) ?_;refine zn (zf ?_);refine cw_skip (zq (cw_seq ?_))
   by_cases hq : recN l1 j = (recN l2 i)
   ·
    refine dE Tz61_2 (fun w' => w'.cell? ⟨b1, o1 + j * 7, none⟩ = some (iv ((recN l1 j).c : Int)) ∧ w'.cell? ⟨b1, o1 + j * 7 + 1, none⟩ = some (iv ((recN l1 j).n : Int)) ∧ w'.cell? ⟨b1, o1 + j * 7 + 2, none⟩ = some (iv ((recN l1 j).t : Int)) ∧ w'.cell? ⟨b1, o1 + j * 7 + 3, none⟩ = some (iv ((recN l1 j).o : Int)) ∧ w'.cell? ⟨b1, o1 + j * 7 + 4, none⟩ = some (iv ((recN l1 j).w : Int)) ∧ w'.cell? ⟨b1, o1 + j * 7 + 5, none⟩ = some (iv ((recN l1 j).k : Int)) ∧ w'.cell? ⟨b1, o1 + j * 7 + 6, none⟩ = some (.string ((recN l1 j).x)) ∧ w'.cell? ⟨b2, o2 + i * 7, none⟩ = some (iv ((recN l2 i).c : Int)) ∧ w'.cell? ⟨b2, o2 + i * 7 + 1, none⟩ = some (iv ((recN l2 i).n : Int)) ∧ w'.cell? ⟨b2, o2 + i * 7 + 2, none⟩ = some (iv ((recN l2 i).t : Int)) ∧ w'.cell? ⟨b2, o2 + i * 7 + 3, none⟩ = some (iv ((recN l2 i).o : Int)) ∧ w'.cell? ⟨b2, o2 + i * 7 + 4, none⟩ = some (iv ((recN l2 i).w : Int)) ∧ w'.cell? ⟨b2, o2 + i * 7 + 5, none⟩ = some (iv ((recN l2 i).k : Int)) ∧ w'.cell? ⟨b2, o2 + i * 7 + 6, none⟩ = some (.string ((recN l2 i).x))) (⟨(B2.ext hE).c0 (i := j) (by omega), (B2.ext hE).c1 (i := j) (by omega), (B2.ext hE).c2 (i := j) (by omega), (B2.ext hE).c3 (i := j) (by omega), (B2.ext hE).c4 (i := j) (by omega), (B2.ext hE).c5 (i := j) (by omega), (B2.ext hE).c6 (i := j) (by omega), (B0.ext hE).c0 (i := i) (by omega), (B0.ext hE).c1 (i := i) (by omega), (B0.ext hE).c2 (i := i) (by omega), (B0.ext hE).c3 (i := i) (by omega), (B0.ext hE).c4 (i := i) (by omega), (B0.ext hE).c5 (i := i) (by omega), (B0.ext hE).c6 (i := i) (by omega)⟩) (fun ops Q X8 hb hL hR hK => ?_);replace hE := hE.trans hb;have Bn := hb.size;have hS := A14 ((B2.ext hE).c0 (i := j) (by omega)) ((B2.ext hE).c1 (i := j) (by omega)) ((B2.ext hE).c2 (i := j) (by omega)) ((B2.ext hE).c3 (i := j) (by omega)) ((B2.ext hE).c4 (i := j) (by omega)) ((B2.ext hE).c5 (i := j) (by omega)) ((B2.ext hE).c6 (i := j) (by omega)) ((B0.ext hE).c0 (i := i) (by omega)) ((B0.ext hE).c1 (i := i) (by omega)) ((B0.ext hE).c2 (i := i) (by omega)) ((B0.ext hE).c3 (i := i) (by omega)) ((B0.ext hE).c4 (i := i) (by omega)) ((B0.ext hE).c5 (i := i) (by omega)) ((B0.ext hE).c6 (i := i) (by omega));refine wW 0 (sv b1 o1 n1 c1) 1 (iv j) hR hS ?_;refine wL 2 (pw b1 (o1 + j * 7)) hR (fun w _ => ex_index (p := sv b1 o1 n1 c1) (i := iv j) rfl (by kernel_rfl) (by kernel_rfl) (ix23 (k := j) (by omega))) hS ?_;refine wM 3 (.agg #[iv ((recN l1 j).c : Int), iv ((recN l1 j).n : Int), iv ((recN l1 j).t : Int), iv ((recN l1 j).o : Int), iv ((recN l1 j).w : Int), iv ((recN l1 j).k : Int), .string ((recN l1 j).x)]) hR (fun w hS => ld49 (hS.1) (hS.2.1) (hS.2.2.1) (hS.2.2.2.1) (hS.2.2.2.2.1) (hS.2.2.2.2.2.1) (hS.2.2.2.2.2.2.1)) hS ?_;refine wW 4 (sv b2 o2 n2 c2) 5 (iv i) hR hS ?_;refine wL 6 (pw b2 (o2 + i * 7)) hR (fun w _ => ex_index (p := sv b2 o2 n2 c2) (i := iv i) rfl (by kernel_rfl) (by kernel_rfl) (ix23 (k := i) (by omega))) hS ?_;refine wM 7 (.agg #[iv ((recN l2 i).c : Int), iv ((recN l2 i).n : Int), iv ((recN l2 i).t : Int), iv ((recN l2 i).o : Int), iv ((recN l2 i).w : Int), iv ((recN l2 i).k : Int), .string ((recN l2 i).x)]) hR (fun w hS => ld49 (hS.2.2.2.2.2.2.2.1) (hS.2.2.2.2.2.2.2.2.1) (hS.2.2.2.2.2.2.2.2.2.1) (hS.2.2.2.2.2.2.2.2.2.2.1) (hS.2.2.2.2.2.2.2.2.2.2.2.1) (hS.2.2.2.2.2.2.2.2.2.2.2.2.1) (hS.2.2.2.2.2.2.2.2.2.2.2.2.2)) hS ?_;refine wL 8 (.bool false) hR (fun w _ => ex_binV (a := .agg #[iv ((recN l1 j).c : Int), iv ((recN l1 j).n : Int), iv ((recN l1 j).t : Int), iv ((recN l1 j).o : Int), iv ((recN l1 j).w : Int), iv ((recN l1 j).k : Int), .string ((recN l1 j).x)]) (b := .agg #[iv ((recN l2 i).c : Int), iv ((recN l2 i).n : Int), iv ((recN l2 i).t : Int), iv ((recN l2 i).o : Int), iv ((recN l2 i).w : Int), iv ((recN l2 i).k : Int), .string ((recN l2 i).x)]) rfl (by kernel_rfl) (by kernel_rfl) (eqG_agg (by kernel_rfl)) (bin_nqv_t (rec_eq _ ((recN l1 j)) ((recN l2 i))) hq)) hS ?_;refine we hL hR hK ?_;refine zq (cK [0,1,5,35] (fun L => ?_));refine zf ?_;refine cw_skip (qw_block (zq (zp (pT (iv i) ?_))));refine pU (iv ((i + 1 : Nat) : Int)) (ew (by omega) (by omega)) ?_;refine pT (iv ((i + 1 : Nat) : Int)) ?_;refine pl_nil (zr [0, 1, 5] _ ?_ ⟨(i + 1), rfl, rfl, (T Bi (T Bk (T Bm Bn))), hE, by omega, (fun j hj => by rcases Nat.lt_succ_iff_lt_or_eq.1 hj with h | h; exact hno j h; rw [h, ← hq]; exact (Rep.findK_some hfn).1)⟩);omega
   ·
    refine dE Tz61_2 (fun w' => w'.cell? ⟨b1, o1 + j * 7, none⟩ = some (iv ((recN l1 j).c : Int)) ∧ w'.cell? ⟨b1, o1 + j * 7 + 1, none⟩ = some (iv ((recN l1 j).n : Int)) ∧ w'.cell? ⟨b1, o1 + j * 7 + 2, none⟩ = some (iv ((recN l1 j).t : Int)) ∧ w'.cell? ⟨b1, o1 + j * 7 + 3, none⟩ = some (iv ((recN l1 j).o : Int)) ∧ w'.cell? ⟨b1, o1 + j * 7 + 4, none⟩ = some (iv ((recN l1 j).w : Int)) ∧ w'.cell? ⟨b1, o1 + j * 7 + 5, none⟩ = some (iv ((recN l1 j).k : Int)) ∧ w'.cell? ⟨b1, o1 + j * 7 + 6, none⟩ = some (.string ((recN l1 j).x)) ∧ w'.cell? ⟨b2, o2 + i * 7, none⟩ = some (iv ((recN l2 i).c : Int)) ∧ w'.cell? ⟨b2, o2 + i * 7 + 1, none⟩ = some (iv ((recN l2 i).n : Int)) ∧ w'.cell? ⟨b2, o2 + i * 7 + 2, none⟩ = some (iv ((recN l2 i).t : Int)) ∧ w'.cell? ⟨b2, o2 + i * 7 + 3, none⟩ = some (iv ((recN l2 i).o : Int)) ∧ w'.cell? ⟨b2, o2 + i * 7 + 4, none⟩ = some (iv ((recN l2 i).w : Int)) ∧ w'.cell? ⟨b2, o2 + i * 7 + 5, none⟩ = some (iv ((recN l2 i).k : Int)) ∧ w'.cell? ⟨b2, o2 + i * 7 + 6, none⟩ = some (.string ((recN l2 i).x))) (⟨(B2.ext hE).c0 (i := j) (by omega), (B2.ext hE).c1 (i := j) (by omega), (B2.ext hE).c2 (i := j) (by omega), (B2.ext hE).c3 (i := j) (by omega), (B2.ext hE).c4 (i := j) (by omega), (B2.ext hE).c5 (i := j) (by omega), (B2.ext hE).c6 (i := j) (by omega), (B0.ext hE).c0 (i := i) (by omega), (B0.ext hE).c1 (i := i) (by omega), (B0.ext hE).c2 (i := i) (by omega), (B0.ext hE).c3 (i := i) (by omega), (B0.ext hE).c4 (i := i) (by omega), (B0.ext hE).c5 (i := i) (by omega), (B0.ext hE).c6 (i := i) (by omega)⟩) (fun ops Q Bp hb hL hR hK => ?_);replace hE := hE.trans hb;have Bj := hb.size;have hS := A14 ((B2.ext hE).c0 (i := j) (by omega)) ((B2.ext hE).c1 (i := j) (by omega)) ((B2.ext hE).c2 (i := j) (by omega)) ((B2.ext hE).c3 (i := j) (by omega)) ((B2.ext hE).c4 (i := j) (by omega)) ((B2.ext hE).c5 (i := j) (by omega)) ((B2.ext hE).c6 (i := j) (by omega)) ((B0.ext hE).c0 (i := i) (by omega)) ((B0.ext hE).c1 (i := i) (by omega)) ((B0.ext hE).c2 (i := i) (by omega)) ((B0.ext hE).c3 (i := i) (by omega)) ((B0.ext hE).c4 (i := i) (by omega)) ((B0.ext hE).c5 (i := i) (by omega)) ((B0.ext hE).c6 (i := i) (by omega));refine wW 0 (sv b1 o1 n1 c1) 1 (iv j) hR hS ?_;refine wL 2 (pw b1 (o1 + j * 7)) hR (fun w _ => ex_index (p := sv b1 o1 n1 c1) (i := iv j) rfl (by kernel_rfl) (by kernel_rfl) (ix23 (k := j) (by omega))) hS ?_;refine wM 3 (.agg #[iv ((recN l1 j).c : Int), iv ((recN l1 j).n : Int), iv ((recN l1 j).t : Int), iv ((recN l1 j).o : Int), iv ((recN l1 j).w : Int), iv ((recN l1 j).k : Int), .string ((recN l1 j).x)]) hR (fun w hS => ld49 (hS.1) (hS.2.1) (hS.2.2.1) (hS.2.2.2.1) (hS.2.2.2.2.1) (hS.2.2.2.2.2.1) (hS.2.2.2.2.2.2.1)) hS ?_;refine wW 4 (sv b2 o2 n2 c2) 5 (iv i) hR hS ?_;refine wL 6 (pw b2 (o2 + i * 7)) hR (fun w _ => ex_index (p := sv b2 o2 n2 c2) (i := iv i) rfl (by kernel_rfl) (by kernel_rfl) (ix23 (k := i) (by omega))) hS ?_;refine wM 7 (.agg #[iv ((recN l2 i).c : Int), iv ((recN l2 i).n : Int), iv ((recN l2 i).t : Int), iv ((recN l2 i).o : Int), iv ((recN l2 i).w : Int), iv ((recN l2 i).k : Int), .string ((recN l2 i).x)]) hR (fun w hS => ld49 (hS.2.2.2.2.2.2.2.1) (hS.2.2.2.2.2.2.2.2.1) (hS.2.2.2.2.2.2.2.2.2.1) (hS.2.2.2.2.2.2.2.2.2.2.1) (hS.2.2.2.2.2.2.2.2.2.2.2.1) (hS.2.2.2.2.2.2.2.2.2.2.2.2.1) (hS.2.2.2.2.2.2.2.2.2.2.2.2.2)) hS ?_;refine wL 8 (.bool true) hR (fun w _ => ex_binV (a := .agg #[iv ((recN l1 j).c : Int), iv ((recN l1 j).n : Int), iv ((recN l1 j).t : Int), iv ((recN l1 j).o : Int), iv ((recN l1 j).w : Int), iv ((recN l1 j).k : Int), .string ((recN l1 j).x)]) (b := .agg #[iv ((recN l2 i).c : Int), iv ((recN l2 i).n : Int), iv ((recN l2 i).t : Int), iv ((recN l2 i).o : Int), iv ((recN l2 i).w : Int), iv ((recN l2 i).k : Int), .string ((recN l2 i).x)]) rfl (by kernel_rfl) (by kernel_rfl) (eqG_agg (by kernel_rfl)) (bin_nqv_f (rec_eq _ ((recN l1 j)) ((recN l2 i))) hq)) hS ?_;refine we hL hR hK ?_;refine zq (cK [0,1,5,35] (fun L => ?_));refine zt ?_;refine zc (zp (pT (.bool false) ?_));refine zn (cw_ret (qw_block_ret (qw_then_ret (qw_then_ret (qw_block_ret (qw_then_ret (qw_ret [.bool false] rfl ⟨(by kernel_rfl), trivial⟩ ?_)))))));exact ⟨rb (Rep.keeps_f (recN_mem (i := i) (by omega)) fun q => hq (hd.inj (Rep.findK_some hfn).1 q (Rep.findK_some hfn).2)).symm, hE⟩
 ·
  refine zc (zc (zp (pD (iv i) (.slice a2 n2 c2) ?_)));refine pT (iv n2) ?_;refine pU (.bool false) (en (((i : Nat) : Int) < ((n2 : Nat) : Int)) (by omega)) ?_;refine zn (zf ?_);refine cw_exit (qw_then_exit (qw_then_exit (qw_block_out (zq (zc (zp (pT (.bool true) ?_)))))));refine zn (cw_ret (qw_ret [.bool true] rfl ⟨(by kernel_rfl), trivial⟩ ?_));exact ⟨rb (Rep.keeps_t fun x hx => by obtain ⟨j, hj, rfl⟩ := Rep.mem_recN hx; exact hno j (by omega)).symm, hE⟩
theorem keeps_r {w1 w2 : World} {a1 a2 : Option Addr} {n1 n2 : Nat} {l1 l2 : List Rec} {r : Bool} (c1 c2 : Nat) (w : World) (H1 : RecsAt w1 a1 n1 l1) (e1 : Ext w1 w) (H2 : RecsAt w2 a2 n2 l2) (e2 : Ext w2 w) (hd : Rep.keysD l1) (hr : Rep.keepsB l1 l2 = r) : Calls Tryz.prog 37 #[.slice a1 n1 c1, .slice a2 n2 c2] w fun e w' => e = .returned (.bool r) ∧ Ext w w' := hr ▸ keeps_c c1 c2 w H1 e1 H2 e2 hd
instance {w w' : World} {B n : Nat} {l : List Rec} : MvC w w' (TxtB w B n l) (TxtB w' B n l) := ⟨fun e h => h.ext e⟩
end Go.Proofs.YtfmoabgjaclkpaaGreatDoor

namespace Go.Proofs.YtfmoabgjaclkpaaGreatDoor
set_option maxRecDepth 1000000
set_option maxHeartbeats 4000000
set_option synthInstance.maxHeartbeats 0
set_option synthInstance.maxSize 9999
open Go.RowKit
def Tz62_0 : List Row := [(some 187, [29], []), (some 188, [187], [0]), (some 189, [26, 188], [1]), (some 190, [189, 188], [2, 1]), (some 191, [188, 190], [1, 3]), (some 192, [191], [4, 1]), (some 193, [28, 192], [5]), (some 194, [193, 192], [6, 5]), (some 195, [192, 194], [5, 7]), (some 196, [195], [8, 5]), (some 197, [27, 196], [9]), (some 198, [13, 196], [9]), (some 199, [198, 196], [11, 9]), (some 200, [199, 196], [12, 9]), (some 201, [197, 200, 196], [10, 13, 9]), (some 202, [196, 201], [9, 14]), (some 203, [202], [15, 9]), (some 204, [13, 203], [16]), (some 205, [204, 203], [17, 16]), (some 206, [205, 203], [18, 16]), (some 207, [203], [16]), (some 208, [206, 207, 203], [19, 20, 16]), (some 209, [203, 208], [16, 21]), (some 210, [209], [22, 16]), (some 211, [15, 210], [23]), (some 212, [211, 210], [24, 23, 23]), (some 213, [210, 212], [23, 25]), (some 214, [213], [26, 25]), (some 215, [214], [27]), (some 216, [215, 214], [28, 27, 27]), (some 217, [216, 214], [29, 27]), (some 218, [214, 217], [27, 30]), (some 219, [218], [31, 29]), (some 220, [15, 219], [32]), (some 221, [15, 219], [32]), (some 222, [220, 221, 219], [33, 34, 32, 32]), (some 223, [219, 222], [32, 35]), (some 224, [223], [36, 35]), (some 225, [15, 224], [37]), (some 226, [1, 224], [37]), (some 227, [225, 226, 224], [38, 39, 37, 37]), (some 228, [227, 224], [40, 37]), (some 229, [224, 228], [37, 41]), (some 0, [229], [42, 40, 0, 1, 2, 3, 4, 5, 6, 7, 8, 9, 10, 11, 12, 13, 14, 15, 16, 17, 18, 19, 20, 21, 22, 23, 24, 25, 26, 27, 28, 29, 30, 31, 32, 33, 34, 35, 36, 37, 38, 39, 40, 41, 42])]
namespace San
def rA : Rec := ⟨2, 1, 100, -1, 0, 1, ⟨#[119, 104, 111, 108, 101]⟩⟩
def rB : Rec := ⟨5, 1, 200, 2, 1, 1, ⟨#[99, 114, 97, 99, 107, 101, 100]⟩⟩
def rC : Rec := ⟨2, 2, 150, 2, 1, 1, ⟨#[115, 116, 97, 105, 110, 101, 100]⟩⟩
def l1 : List Rec := [rA]
def l2 : List Rec := [rA, rB]
def l3 : List Rec := [rA, rC]
def l4 : List Rec := [rA, rC, rB]
def lB : List Rec := [rB]
def lC : List Rec := [rC]
theorem h1 : Rep.addF 2 [] ⟨0, 0, 100, -1, 0, 1, ⟨#[119, 104, 111, 108, 101]⟩⟩ = some l1 := by kernel_rfl
theorem h2 : Rep.mergeF 5 [] 2 l1 = some l1 := by kernel_rfl
theorem h3 : Rep.corrF 5 l1 ⟨0, 0, 200, 2, 1, 1, ⟨#[99, 114, 97, 99, 107, 101, 100]⟩⟩ = some l2 := by kernel_rfl
theorem h4 : Rep.corrF 2 l1 ⟨0, 0, 150, 2, 1, 1, ⟨#[115, 116, 97, 105, 110, 101, 100]⟩⟩ = some l3 := by kernel_rfl
theorem h5 : Rep.foldO 2 l3 = some lC := by kernel_rfl
theorem h6 : Rep.foldO 5 l2 = some lB := by kernel_rfl
theorem h7 : Rep.behindF 2 l3 5 l2 = some lB := by kernel_rfl
theorem h8 : Rep.mergeF 2 l3 5 l2 = some l4 := by kernel_rfl
theorem h9 : Rep.foldO 2 l4 = some lB := by kernel_rfl
theorem h10 : Rep.histO 2 l4 (2, 1) = some l4 := by kernel_rfl
theorem h11 : Rep.histO 2 l4 (3, 1) = none := by kernel_rfl
theorem h12 : Rep.okR (recN lB 0) = true := by kernel_rfl
theorem h13 : Rep.decR (Rep.encR (recN lB 0)) = some (recN lB 0) := by kernel_rfl
theorem hs : (Rep.encR (recN lB 0)).size ≤ 1000000 := of_decide_eq_true (by kernel_rfl)
theorem h14 : Rep.validB 2 l4 = true := by kernel_rfl
theorem h15 : Rep.validB (-1) [] = false := by kernel_rfl
theorem h16 : decide ((2 : Int) = 2 ∧ l4 = l4) = true := by kernel_rfl
theorem h17 : decide ((2 : Int) = 2 ∧ l4 = l3) = false := by kernel_rfl
end San
theorem TxtB.one {w : World} {B : Nat} {x : Rec} (h : BoxAt w B 0 (.string x.x)) : TxtB w B 1 [x] := ⟨fun i hi => by
 match i, hi with
 | 0, _ => exact h.1
 | _ + 1, h => omega⟩
theorem TxtB.three {w : World} {B : Nat} {x y z : Rec} (h : BoxAt w B 0 (.string x.x)) (k : BoxAt w B 1 (.string y.x)) (m : BoxAt w B 2 (.string z.x)) : TxtB w B 3 [x, y, z] := ⟨fun i hi => by
 match i, hi with
 | 0, _ => exact h.1
 | 1, _ => exact k.1
 | 2, _ => exact m.1
 | _ + 3, h => omega⟩
theorem Same_r {w1 w2 : World} {a1 a2 : Option Addr} {n1 n2 : Nat} {l1 l2 : List Rec} {c1 c2 : Int} {r : Bool} (k1 k2 : Nat) (w : World) (H1 : RecsAt w1 a1 n1 l1) (e1 : Ext w1 w) (H2 : RecsAt w2 a2 n2 l2) (e2 : Ext w2 w) (hr : decide (c1 = c2 ∧ l1 = l2) = r) : Calls Tryz.prog 30 #[.agg #[.int .i64 c1, .slice a1 n1 k1], .agg #[.int .i64 c2, .slice a2 n2 k2]] w fun e w' => e = .returned (.bool r) ∧ Ext w w' := hr ▸ Same_c k1 k2 w H1 e1 H2 e2
theorem sane_c (w : World) (hRl : RootAt w) : Calls Tryz.prog 10 #[] w fun e w' => e = .returned (.bool true) ∧ Ext w w' := by
 refine calls_cw 230 [] Tryz.func10 rfl Tryz.ntmps10 (by kernel_rfl) (by kernel_rfl) (fun L => ?_);have hE := Ext.refl w;refine zc (zp (pT (.bool false) ?_));refine zn (zc (zp (pS (sc 33 #[iv 2] ((New_y (c := 2) _ (by omega) (hRl.ext (Ext.refl _))).mono ?_)))));rintro e w1 ⟨rfl, hb⟩;replace hE := hE.trans hb;have Dd := hb.size;refine ⟨_, rfl, pD (.tuple #[.agg #[iv 2, .slice none 0 0], iv 0]) (.agg #[iv 2, .slice none 0 0]) ?_⟩;refine pT (iv 0) ?_;refine pS (sw 25 #[iv 0, .slice none 0 0] ?_);intro O3 X4 Dq Ha hb hbx;have ⟨Be, Bg⟩ := bq2 hbx;replace hE := hE.trans hb;have Dt := hb.size;have Dc := Be.lt;refine pP (sn_set2 (O := O3) (j := 0) (v := iv 2) (v' := .slice none 0 0) (xt (pw O3 0) (.agg #[iv 2, .slice none 0 0]) (st25 Be.1 Be.2 Bg.1 Bg.2)) Be Bg ?_);intro X7 ho Be Bg hk;replace hE := ho.ext hE (T Dd (Nat.le_of_eq Dq));have Cw := Nat.le_of_eq ho.size.symm;clear ho hk;refine pT (iv 0) ?_;refine zn (zc (zp (pS (sc 33 #[iv 5] ((New_y (c := 5) _ (by omega) (hRl.ext hE)).mono ?_)))));rintro e w9 ⟨rfl, hb⟩;refine mv3 hb hE Be Bg fun hE Be Bg=>?_;have C9 := hb.size;refine ⟨_, rfl, pD (.tuple #[.agg #[iv 5, .slice none 0 0], iv 0]) (.agg #[iv 5, .slice none 0 0]) ?_⟩;refine pT (iv 0) ?_;refine pS (sw 25 #[iv 0, .slice none 0 0] ?_);intro Dg Gl Cl G8 hb hbx;have ⟨Bc, Bf⟩ := bq2 hbx;refine mv3 hb hE Be Bg fun hE Be Bg=>?_;have Cu := hb.size;have D8 := Bc.lt;refine pP (sn_set2 (O := Dg) (j := 0) (v := iv 5) (v' := .slice none 0 0) (xt (pw Dg 0) (.agg #[iv 5, .slice none 0 0]) (st25 Bc.1 Bc.2 Bf.1 Bf.2)) Bc Bf ?_);intro Fc ho Bc Bf hk;replace hE := ho.ext hE (by omega);have q9 := ho.bx O3 (by omega);replace Be := q9 Be;replace Bg := q9 Bg;clear q9;have Cg := Nat.le_of_eq ho.size.symm;clear ho hk;refine pT (iv 0) ?_;refine zn (zc (zp (pU (.agg #[iv 2, .slice none 0 0]) (xl (ld25 (Be.1) (Bg.1))) ?_)));refine pS (sc 18 #[.agg #[iv 2, .slice none 0 0], iv 100, iv 1, .string (⟨#[119, 104, 111, 108, 101]⟩)] ((Add_y _ 100 1 ⟨#[119, 104, 111, 108, 101]⟩ _ (RecsAt.nil Fc) (Ext.refl _) (hRl.ext hE) San.h1).mono ?_));rintro e F5 ⟨Dh, Hb, Dl, rfl, Dy, Fe, Cx, hb⟩;obtain rfl : 1 = Hb := Dy.len;refine mv5 hb hE Be Bg Bc Bf fun hE Be Bg Bc Bf=>?_;have Cp := hb.size;have Gw := Ext.refl F5;refine ⟨_, rfl, pD (.tuple #[.agg #[iv 2, .slice Dh 1 Dl], iv 0]) (.agg #[iv 2, .slice Dh 1 Dl]) ?_⟩;refine pT (iv 0) ?_;have Bw := Dy;refine pP (sn_set2 (O := O3) (j := 0) (v := iv 2) (v' := .slice Dh 1 Dl) (xt (pw O3 0) (.agg #[iv 2, .slice Dh 1 Dl]) (st25 Be.1 Be.2 Bg.1 Bg.2)) Be Bg ?_);intro Fd ho Be Bg hk;replace hE := ho.ext hE (T Dd (Nat.le_of_eq Dq));have q9 := ho.bx Dg (by omega);replace Bc := q9 Bc;replace Bf := q9 Bf;clear q9;replace Bw := Bw.turn ho (fun ad e => Nat.ne_of_gt (Nat.lt_of_lt_of_le (by omega) (Cx ad e)));have Cq := Nat.le_of_eq ho.size.symm;clear ho hk;refine pT (iv 0) ?_;refine zn (cK [1,2,3,4,5] (fun L => ?_));refine zc (zp (pU (.agg #[iv 5, .slice none 0 0]) (xl (ld25 (Bc.1) (Bf.1))) ?_));refine pU (.agg #[iv 2, .slice Dh 1 Dl]) (xl (ld25 (Be.1) (Bg.1))) ?_;refine pS (sc 26 #[.agg #[iv 5, .slice none 0 0], .agg #[iv 2, .slice Dh 1 Dl]] ((Merge_y _ _ _ (RecsAt.nil Fd) (Ext.refl _) (Bw) (Ext.refl _) (hRl.ext hE) San.h2).mono ?_));rintro e F6 ⟨Dr, Hc, Du, rfl, Dz, Ff, D5, hb⟩;obtain rfl : 1 = Hc := Dz.len;refine mv6 hb hE Bc Bf Bw Be Bg fun hE Bc Bf Bw Be Bg=>?_;have Cz := hb.size;have Gx := Ext.refl F6;refine ⟨_, rfl, pD (.tuple #[.agg #[iv 5, .slice Dr 1 Du], iv 0]) (.agg #[iv 5, .slice Dr 1 Du]) ?_⟩;refine pT (iv 0) ?_;have Bz := Dz;refine pP (sn_set2 (O := Dg) (j := 0) (v := iv 5) (v' := .slice Dr 1 Du) (xt (pw Dg 0) (.agg #[iv 5, .slice Dr 1 Du]) (st25 Bc.1 Bc.2 Bf.1 Bf.2)) Bc Bf ?_);intro Gs ho Bc Bf hk;replace hE := ho.ext hE (by omega);replace Bw := Bw.turn ho (fun ad e => Nat.ne_of_gt (Nat.lt_of_lt_of_le (Nat.lt_of_lt_of_le D8 Cg) (Cx ad e)));have q9 := ho.bx O3 (by omega);replace Be := q9 Be;replace Bg := q9 Bg;clear q9;replace Bz := Bz.turn ho (fun ad e => Nat.ne_of_gt (Nat.lt_of_lt_of_le (by omega) (D5 ad e)));have D0 := Nat.le_of_eq ho.size.symm;clear ho hk;refine pT (iv 0) ?_;refine zn (zc (zp (pU (.agg #[iv 5, .slice Dr 1 Du]) (xl (ld25 (Bc.1) (Bf.1))) ?_)));refine pS (sc 22 #[.agg #[iv 5, .slice Dr 1 Du], iv 200, iv 2, iv 1, iv 1, .string (⟨#[99, 114, 97, 99, 107, 101, 100]⟩)] ((Correct_y _ 200 2 1 1 ⟨#[99, 114, 97, 99, 107, 101, 100]⟩ _ (Bz) (Ext.refl _) (hRl.ext hE) San.h3).mono ?_));rintro e F7 ⟨D9, Hd, Da, rfl, E0, Fg, Dk, hb⟩;obtain rfl : 2 = Hd := E0.len;refine mv6 hb hE Bw Be Bg Bc Bf fun hE Bw Be Bg Bc Bf=>?_;have De := hb.size;have Gy := Ext.refl F7;refine ⟨_, rfl, pD (.tuple #[.agg #[iv 5, .slice D9 2 Da], iv 0]) (.agg #[iv 5, .slice D9 2 Da]) ?_⟩;refine pT (iv 0) ?_;have C0 := E0;refine pP (sn_set2 (O := Dg) (j := 0) (v := iv 5) (v' := .slice D9 2 Da) (xt (pw Dg 0) (.agg #[iv 5, .slice D9 2 Da]) (st25 Bc.1 Bc.2 Bf.1 Bf.2)) Bc Bf ?_);intro Gt ho Cj Ck hk;replace hE := ho.ext hE (by omega);replace Bw := Bw.turn ho (fun ad e => Nat.ne_of_gt (Nat.lt_of_lt_of_le (Nat.lt_of_lt_of_le D8 Cg) (Cx ad e)));have q9 := ho.bx O3 (by omega)
 replace Be := q9 Be;replace Bg := q9 Bg;clear q9;replace C0 := C0.turn ho (fun ad e => Nat.ne_of_gt (Nat.lt_of_lt_of_le (by omega) (Dk ad e)));have Df := Nat.le_of_eq ho.size.symm;clear ho hk Bc Bf;have Bc := Cj;clear Cj;have Bf := Ck;clear Ck;refine pT (iv 0) ?_;refine zn (cK [1,2,3,4,5,6,7] (fun L => ?_));refine zc (zp (pU (.agg #[iv 2, .slice Dh 1 Dl]) (xl (ld25 (Be.1) (Bg.1))) ?_));refine pS (sc 22 #[.agg #[iv 2, .slice Dh 1 Dl], iv 150, iv 2, iv 1, iv 1, .string (⟨#[115, 116, 97, 105, 110, 101, 100]⟩)] ((Correct_y _ 150 2 1 1 ⟨#[115, 116, 97, 105, 110, 101, 100]⟩ _ (Bw) (Ext.refl _) (hRl.ext hE) San.h4).mono ?_));rintro e F8 ⟨Cy, He, D2, rfl, E1, Fh, E5, hb⟩;obtain rfl : 2 = He := E1.len;refine mv6 hb hE Be Bg C0 Bc Bf fun hE Be Bg C0 Bc Bf=>?_;have Dn := hb.size;have Gz := Ext.refl F8;refine ⟨_, rfl, pD (.tuple #[.agg #[iv 2, .slice Cy 2 D2], iv 0]) (.agg #[iv 2, .slice Cy 2 D2]) ?_⟩;refine pT (iv 0) ?_;have C2 := E1;refine pP (sn_set2 (O := O3) (j := 0) (v := iv 2) (v' := .slice Cy 2 D2) (xt (pw O3 0) (.agg #[iv 2, .slice Cy 2 D2]) (st25 Be.1 Be.2 Bg.1 Bg.2)) Be Bg ?_);intro Gu ho Be Bg hk;replace hE := ho.ext hE (T Dd (Nat.le_of_eq Dq));replace C0 := C0.turn ho (fun ad e => Nat.ne_of_gt (Nat.lt_of_lt_of_le (by omega) (Dk ad e)));have q9 := ho.bx Dg (by omega);replace Bc := q9 Bc;replace Bf := q9 Bf;clear q9;replace C2 := C2.turn ho (fun ad e => Nat.ne_of_gt (Nat.lt_of_lt_of_le (by omega) (E5 ad e)));have Do := Nat.le_of_eq ho.size.symm;clear ho hk;refine pT (iv 0) ?_;refine zn (zc (zc (zp (pD (iv 0) (.bool false) ?_))));refine pD (.bool false) (iv 0) ?_;refine pD (.bool false) (.bool false) ?_;refine pD (.bool false) (iv 0) ?_;refine pD (.bool false) (.bool false) ?_;refine pD (.bool false) (iv 0) ?_;refine pD (.bool false) (.bool false) ?_;refine pD (.bool false) (iv 0) ?_;refine pD (.bool false) (.bool false) ?_;refine pD (.bool false) (iv 0) ?_;refine pD (.bool false) (.bool false) ?_;refine zn (cK [1,3,80] (fun L => ?_));refine zf ?_;refine cw_skip (zq (zc (zp (pU (.agg #[iv 2, .slice Cy 2 D2]) (xl (ld25 (Be.1) (Bg.1))) ?_))));refine pS (sc 13 #[.agg #[iv 2, .slice Cy 2 D2]] ((Fold_y _ _ (C2) (Ext.refl _) (hRl.ext hE) San.h5).mono ?_));rintro e Gh ⟨Dw, Hf, E6, rfl, E2, Fi, hb⟩;obtain rfl : 1 = Hf := E2.len;refine mv7 hb hE C0 Bc Bf C2 Be Bg fun hE C0 Bc Bf C2 Be Bg=>?_;have Dp := hb.size;have Bn := Ext.refl Gh;refine ⟨_, rfl, pD (.tuple #[.slice Dw 1 E6, iv 0]) (.slice Dw 1 E6) ?_⟩;refine pD (iv 0) (.slice Dw 1 E6) ?_;refine pT (iv 0) ?_;refine zn (zc (zp (pU (.agg #[iv 5, .slice D9 2 Da]) (xl (ld25 (Bc.1) (Bf.1))) ?_)));refine pS (sc 13 #[.agg #[iv 5, .slice D9 2 Da]] ((Fold_y _ _ (C0) (Ext.refl _) (hRl.ext hE) San.h6).mono ?_));rintro e Gi ⟨Dx, Hg, E7, rfl, E3, Fj, hb⟩;obtain rfl : 1 = Hg := E3.len;refine mv7 hb hE Bn C0 Bc Bf C2 Be fun hE Bn C0 Bc Bf C2 Be=>?_;replace Bg := Bg.x hb;have D1 := hb.size;have Bp := Ext.refl Gi;refine ⟨_, rfl, pD (.tuple #[.slice Dx 1 E7, iv 0]) (.slice Dx 1 E7) ?_⟩;refine pD (iv 0) (.slice Dx 1 E7) ?_;refine pT (iv 0) ?_;refine zn (cK [1,3,9,10,11,12] (fun L => ?_));refine zc (zp (pU (.agg #[iv 2, .slice Cy 2 D2]) (xl (ld25 (Be.1) (Bg.1))) ?_));refine pU (.agg #[iv 5, .slice D9 2 Da]) (xl (ld25 (Bc.1) (Bf.1))) ?_;refine pS (sc 28 #[.agg #[iv 2, .slice Cy 2 D2], .agg #[iv 5, .slice D9 2 Da]] ((Behind_y _ _ _ (C2) (Ext.refl _) (C0) (Ext.refl _) (hRl.ext hE) San.h7).mono ?_));rintro e Gj ⟨Ed, Hh, Db, rfl, E4, Fk, hb⟩;obtain rfl : 1 = Hh := E4.len;refine mv9 hb hE Bn Bp C0 Bc Bf C2 Be Bg fun hE Bn Bp C0 Bc Bf C2 Be Bg=>?_;have Cr := hb.size;have Bq := Ext.refl Gj;refine ⟨_, rfl, pD (.tuple #[.slice Ed 1 Db, iv 0]) (.slice Ed 1 Db) ?_⟩;refine pD (iv 0) (.slice Ed 1 Db) ?_;refine pT (iv 0) ?_;refine zn (zc (zp (pU (.agg #[iv 2, .slice Cy 2 D2]) (xl (ld25 (Be.1) (Bg.1))) ?_)));refine pU (.agg #[iv 5, .slice D9 2 Da]) (xl (ld25 (Bc.1) (Bf.1))) ?_;refine pS (sc 26 #[.agg #[iv 2, .slice Cy 2 D2], .agg #[iv 5, .slice D9 2 Da]] ((Merge_y _ _ _ (C2) (Ext.refl _) (C0) (Ext.refl _) (hRl.ext hE) San.h8).mono ?_));rintro e Gk ⟨Co, Hi, Cs, rfl, Ct, Fl, Fm, hb⟩;obtain rfl : 3 = Hi := Ct.len;refine mv7 hb hE Bn Bp Bq C2 Be Bg fun hE Bn Bp Bq C2 Be Bg=>?_;have Cm := hb.size;have Bi := Ext.refl Gk;refine ⟨_, rfl, pD (.tuple #[.agg #[iv 2, .slice Co 3 Cs], iv 0]) (.agg #[iv 2, .slice Co 3 Cs]) ?_⟩;refine pT (iv 0) ?_;refine pS (sw 25 #[iv 0, .slice none 0 0] ?_);intro Ec Gv Cv G9 hb hbx;have ⟨Br, Bu⟩ := bq2 hbx;refine mv5 hb hE Bn Bp Bq Bi fun hE Bn Bp Bq Bi=>?_;have Ca := hb.size;have Ga := Br.lt;refine pP (sn_set2 (O := Ec) (j := 0) (v := iv 2) (v' := .slice Co 3 Cs) (xt (pw Ec 0) (.agg #[iv 2, .slice Co 3 Cs]) (st25 Br.1 Br.2 Bu.1 Bu.2)) Br Bu ?_);intro Ei ho Br Bu hk;replace hE := ho.ext hE (by omega);replace Bn := ho.ext Bn (T (T D1 (T Cr Cm)) (Nat.le_of_eq Cv));replace Bp := ho.ext Bp (T (T Cr Cm) (Nat.le_of_eq Cv));replace Bq := ho.ext Bq (T Cm (Nat.le_of_eq Cv));replace Bi := ho.ext Bi (Nat.le_of_eq Cv);have Cb := Nat.le_of_eq ho.size.symm;clear ho hk;refine pT (iv 0) ?_;refine zn (cK [1,9,10,11,12,13,14,15,16] (fun L => ?_));refine zc (zp (pU (.agg #[iv 2, .slice Co 3 Cs]) (xl (ld25 (Br.1) (Bu.1))) ?_))
 refine pS (sc 13 #[.agg #[iv 2, .slice Co 3 Cs]] ((Fold_y _ _ ((Ct.ext Bi)) (Ext.refl _) (hRl.ext hE) San.h9).mono ?_));rintro e E8 ⟨D3, F2, D6, rfl, Di, Eo, hb⟩;obtain rfl : 1 = F2 := Di.len;refine mv7 hb hE Bn Bp Bq Bi Br Bu fun hE Bn Bp Bq Bi Br Bu=>?_;have Cc := hb.size;have Bj := Ext.refl E8;refine ⟨_, rfl, pD (.tuple #[.slice D3 1 D6, iv 0]) (.slice D3 1 D6) ?_⟩;refine pD (iv 0) (.slice D3 1 D6) ?_;refine pT (iv 0) ?_;refine zn (cK [1,9,10,11,12,13,14,15,16,17,18] (fun L => ?_));refine zc (zp (pU (.agg #[iv 2, .slice Co 3 Cs]) (xl (ld25 (Br.1) (Bu.1))) ?_));refine pS (sc 24 #[.agg #[iv 2, .slice Co 3 Cs], iv 2, iv 1] ((History_y _ _ ((Ct.ext Bi)) (Ext.refl _) (hRl.ext hE) San.h10).mono ?_));rintro e E9 ⟨D4, F3, D7, rfl, Dj, Ep, hb⟩;obtain rfl : 3 = F3 := Dj.len;refine mv7 hb hE Bn Bp Bq Bi Bj Br fun hE Bn Bp Bq Bi Bj Br=>?_;replace Bu := Bu.x hb;have C6 := hb.size;have Bm := Ext.refl E9;refine ⟨_, rfl, pD (.tuple #[.slice D4 3 D7, iv 0]) (.slice D4 3 D7) ?_⟩;refine pD (iv 0) (.slice D4 3 D7) ?_;refine pT (iv 0) ?_;refine zn (cK [1,9,10,11,12,13,14,15,16,17,18,19,20] (fun L => ?_));refine zc (zp (pU (.agg #[iv 2, .slice Co 3 Cs]) (xl (ld25 (Br.1) (Bu.1))) ?_));refine pS (sc 24 #[.agg #[iv 2, .slice Co 3 Cs], iv 3, iv 1] ((History_n _ _ ((Ct.ext Bi)) (Ext.refl _) (hRl.ext hE) San.h11).mono ?_));rintro e Hj ⟨rfl, hb⟩;refine mv9 hb hE Bn Bp Bq Bi Bj Bm Br Bu fun hE Bn Bp Bq Bi Bj Bm Br Bu=>?_;have C3 := hb.size;refine ⟨_, rfl, pD (.tuple #[.slice none 0 0, iv 350]) (.slice none 0 0) ?_⟩;refine pD (iv 350) (.slice none 0 0) ?_;refine pT (iv 350) ?_;refine zn (cK [1,9,10,11,12,13,14,15,16,17,18,19,20,22] (fun L => ?_));refine zc (zp (pS (sc 33 #[iv 16] ((New_n (c := 16) _ (by omega) (hRl.ext hE)).mono ?_))));rintro e Ea ⟨rfl, hb⟩;refine mv9 hb hE Bn Bp Bq Bi Bj Bm Br Bu fun hE Bn Bp Bq Bi Bj Bm Br Bu=>?_;have C4 := hb.size;have Bh := Ext.refl Ea;refine ⟨_, rfl, pD (.tuple #[.agg #[iv 0, .slice none 0 0], iv 350]) (.agg #[iv 0, .slice none 0 0]) ?_⟩;refine pT (iv 350) ?_;refine pS (sw 25 #[iv 0, .slice none 0 0] ?_);intro Dv Ej C7 Er hb hbx;have ⟨C8, Cd⟩ := bq2 hbx;refine mv7 hb hE Bn Bp Bq Bi Bj Bm fun hE Bn Bp Bq Bi Bj Bm=>?_;replace Bh := Bh.trans hb;have Ch := hb.size;have Gb := C8.lt;refine pP (sn_set2 (O := Dv) (j := 0) (v := iv 0) (v' := .slice none 0 0) (xt (pw Dv 0) (.agg #[iv 0, .slice none 0 0]) (st25 C8.1 C8.2 Cd.1 Cd.2)) C8 Cd ?_);intro Dm ho C8 Cd hk;replace hE := ho.ext hE (by omega);replace Bn := ho.ext Bn (by omega);replace Bp := ho.ext Bp (by omega);replace Bq := ho.ext Bq (by omega);replace Bi := ho.ext Bi (by omega);replace Bj := ho.ext Bj (T (T C6 (T C3 C4)) (Nat.le_of_eq C7));replace Bm := ho.ext Bm (T (T C3 C4) (Nat.le_of_eq C7));replace Bh := ho.ext Bh (Nat.le_of_eq C7);have Ci := Nat.le_of_eq ho.size.symm;clear ho hk;refine pT (iv 350) ?_;refine zn (cK [1,9,10,11,12,13,14,15,16,17,18,19,20,22,24] (fun L => ?_));refine zc (zc (zp (pD (iv 0) (.bool false) ?_)));refine pD (.bool false) (iv 0) ?_;refine pD (.bool false) (.bool false) ?_;refine pD (.bool false) (iv 0) ?_;refine pD (.bool false) (.bool false) ?_;refine pD (.bool false) (iv 0) ?_;refine pD (.bool false) (.bool false) ?_;refine pD (.bool false) (iv 0) ?_;refine pD (.bool false) (.bool false) ?_;refine pD (.bool false) (iv 0) ?_;refine pD (.bool false) (.bool false) ?_;refine pD (.bool false) (iv 350) ?_;refine pD (.bool false) (.bool false) ?_;refine pD (.bool false) (iv 350) ?_;refine pD (.bool false) (.bool false) ?_;refine pD (.bool false) (.slice Ed 1 Db) ?_;refine pD (iv 1) (.bool false) ?_;refine pT (.bool false) ?_;refine zn (cK [1,9,11,13,15,17,19,156] (fun L => ?_));refine zf ?_;refine cw_skip (qw_then ?_);refine cw_seq ?_;have B0 := Ext.refl Dm;have Em := (E4.ext Bq);obtain ⟨b9, o9, H3, En, C1⟩ := Em.parts;have H5 := Em.len;have H6 := Em.max;have H4 := En (by omega);obtain rfl := H3 (by omega);refine zp (pT (sv b9 o9 1 Db) ?_);refine pU (pw b9 o9) (xi (sv b9 o9 1 Db) (iv ((0 : Nat) : Int)) (ix23 (k := 0) (by omega))) ?_;refine pU (.agg #[iv ((recN San.lB 0).c : Int), iv ((recN San.lB 0).n : Int), iv ((recN San.lB 0).t : Int), iv ((recN San.lB 0).o : Int), iv ((recN San.lB 0).w : Int), iv ((recN San.lB 0).k : Int), .string ((recN San.lB 0).x)]) (xl (ld49 (C1.c0 (i := 0) (by omega)) (C1.c1 (i := 0) (by omega)) (C1.c2 (i := 0) (by omega)) (C1.c3 (i := 0) (by omega)) (C1.c4 (i := 0) (by omega)) (C1.c5 (i := 0) (by omega)) (C1.c6 (i := 0) (by omega)))) ?_;refine pS (sc 31 #[.agg #[iv ((recN San.lB 0).c : Int), iv ((recN San.lB 0).n : Int), iv ((recN San.lB 0).t : Int), iv ((recN San.lB 0).o : Int), iv ((recN San.lB 0).w : Int), iv ((recN San.lB 0).k : Int), .string ((recN San.lB 0).x)]] ((Encode_y (x := (recN San.lB 0)) _ (hRl.ext hE) San.h12).mono ?_));rintro e Hk ⟨rfl, hb⟩;refine mv7 hb hE Bn Bp Bi Bj Bm Bh fun hE Bn Bp Bi Bj Bm Bh=>?_;replace B0 := B0.trans hb;have Ce := hb.size
 refine ⟨_, rfl, pD (.tuple #[.string (Rep.encR (recN San.lB 0)), iv 0]) (.string (Rep.encR (recN San.lB 0))) ?_⟩;refine pD (iv 0) (.string (Rep.encR (recN San.lB 0))) ?_;refine pT (iv 0) ?_;refine zn (cK [1,9,11,13,15,17,19,25,26] (fun L => ?_));refine zc (zp (pT (.string (Rep.encR (recN San.lB 0))) ?_));refine pS (sc 35 #[.string (Rep.encR (recN San.lB 0))] ((Decode_y (x := (recN San.lB 0)) _ San.hs (hRl.ext hE) San.h13).mono ?_));rintro e Eb ⟨rfl, hb⟩;refine mv7 hb hE Bn Bp Bi Bj Bm Bh fun hE Bn Bp Bi Bj Bm Bh=>?_;replace B0 := B0.trans hb;have Cf := hb.size;have Bt := Ext.refl Eb;refine ⟨_, rfl, pD (.tuple #[.agg #[iv ((recN San.lB 0).c : Int), iv ((recN San.lB 0).n : Int), iv ((recN San.lB 0).t : Int), iv ((recN San.lB 0).o : Int), iv ((recN San.lB 0).w : Int), iv ((recN San.lB 0).k : Int), .string ((recN San.lB 0).x)], iv 0]) (.agg #[iv ((recN San.lB 0).c : Int), iv ((recN San.lB 0).n : Int), iv ((recN San.lB 0).t : Int), iv ((recN San.lB 0).o : Int), iv ((recN San.lB 0).w : Int), iv ((recN San.lB 0).k : Int), .string ((recN San.lB 0).x)]) ?_⟩;refine pT (iv 0) ?_;refine pS (sw 49 #[iv 0, iv 0, iv 0, iv 0, iv 0, iv 0, .string (⟨#[]⟩)] ?_);intro Cn Ek C5 Es hb hbx;have ⟨B2, B3, B4, B7, B8, Ba, Bb⟩ := bq7 hbx;refine mv7 hb hE Bn Bp Bi Bj Bm Bh fun hE Bn Bp Bi Bj Bm Bh=>?_;replace B0 := B0.trans hb;have Fo := hb.size;have Gc := B2.lt;refine pP (sn_setK7 (O := Cn) (j := 0) (v0 := iv ((recN San.lB 0).c : Int)) (v1 := iv ((recN San.lB 0).n : Int)) (v2 := iv ((recN San.lB 0).t : Int)) (v3 := iv ((recN San.lB 0).o : Int)) (v4 := iv ((recN San.lB 0).w : Int)) (v5 := iv ((recN San.lB 0).k : Int)) (v6 := .string ((recN San.lB 0).x)) (xt (pw Cn 0) (.agg #[iv ((recN San.lB 0).c : Int), iv ((recN San.lB 0).n : Int), iv ((recN San.lB 0).t : Int), iv ((recN San.lB 0).o : Int), iv ((recN San.lB 0).w : Int), iv ((recN San.lB 0).k : Int), .string ((recN San.lB 0).x)]) (st49 B2.1 B2.2 B3.1 B3.2 B4.1 B4.2 B7.1 B7.2 B8.1 B8.2 Ba.1 Ba.2 Bb.1 Bb.2)) B2 B3 B4 B7 B8 Ba Bb ?_);intro El ho B2 B3 B4 B7 B8 Ba Bb hk;replace hE := ho.ext hE (by omega);replace Bn := ho.ext Bn (by omega);replace Bp := ho.ext Bp (by omega);replace Bi := ho.ext Bi (by omega);replace Bj := ho.ext Bj (by omega);replace Bm := ho.ext Bm (by omega);replace Bh := ho.ext Bh (by omega);replace B0 := ho.ext B0 (T (T Ce Cf) (Nat.le_of_eq C5));have Fp := Nat.le_of_eq ho.size.symm;clear ho hk;refine pT (iv 0) ?_;refine zn (cK [1,9,11,13,15,17,19,26,27,28] (fun L => ?_));refine zc (zp (pT (.slice Dw 1 E6) ?_));refine pS (sn_newS (us := #[.string (⟨#[115, 116, 97, 105, 110, 101, 100]⟩)]) (t := 9) (k := 1) (c := 1) (by kernel_rfl) ?_);intro Ee Gm Ey Et hb hbx;have Bk := bq1 hbx;refine mv12 hb hE Bn Bp Bi Bj Bm Bh B0 B2 B3 B4 B7 fun hE Bn Bp Bi Bj Bm Bh B0 B2 B3 B4 B7=>?_;refine mv3 hb B8 Ba Bb fun B8 Ba Bb=>?_;have Fq := hb.size;have Gd := Bk.lt;refine pS (sc 41 #[.slice Dw 1 E6, sv Ee 0 1 1] ((texts_y _ _ _ ((E2.ext Bn)) (Ext.refl _) (TxtB.one Bk)).mono ?_));rintro e Hl ⟨rfl, hb⟩;refine mv12 hb hE Bp Bi Bj Bm Bh B0 B2 B3 B4 B7 B8 fun hE Bp Bi Bj Bm Bh B0 B2 B3 B4 B7 B8=>?_;refine mv2 hb Ba Bb fun Ba Bb=>?_;have Fr := hb.size;refine ⟨_, rfl, pD (.bool true) (.slice Dx 1 E7) ?_⟩;refine pS (sn_newS (us := #[.string (⟨#[99, 114, 97, 99, 107, 101, 100]⟩)]) (t := 9) (k := 1) (c := 1) (by kernel_rfl) ?_);intro Ef Gn Ez Eu hb hbx;have Bo := bq1 hbx;refine mv12 hb hE Bp Bi Bj Bm Bh B0 B2 B3 B4 B7 B8 fun hE Bp Bi Bj Bm Bh B0 B2 B3 B4 B7 B8=>?_;refine mv2 hb Ba Bb fun Ba Bb=>?_;have Fs := hb.size;have Ge := Bo.lt;refine pS (sc 41 #[.slice Dx 1 E7, sv Ef 0 1 1] ((texts_y _ _ _ ((E3.ext Bp)) (Ext.refl _) (TxtB.one Bo)).mono ?_));rintro e Hm ⟨rfl, hb⟩;refine mv12 hb hE Bi Bj Bm Bh B0 B2 B3 B4 B7 B8 Ba fun hE Bi Bj Bm Bh B0 B2 B3 B4 B7 B8 Ba=>?_;replace Bb := Bb.x hb;have Ft := hb.size;refine ⟨_, rfl, pD (.bool true) (.bool true) ?_⟩;refine pT (.slice D3 1 D6) ?_;refine pS (sn_newS (us := #[.string (⟨#[99, 114, 97, 99, 107, 101, 100]⟩)]) (t := 9) (k := 1) (c := 1) (by kernel_rfl) ?_);intro Eg Gp F0 Ev hb hbx;have Bs := bq1 hbx;refine mv12 hb hE Bi Bj Bm Bh B0 B2 B3 B4 B7 B8 Ba fun hE Bi Bj Bm Bh B0 B2 B3 B4 B7 B8 Ba=>?_;replace Bb := Bb.x hb;have Fu := hb.size;have Gf := Bs.lt
 refine pS (sc 41 #[.slice D3 1 D6, sv Eg 0 1 1] ((texts_y _ _ _ ((Di.ext Bj)) (Ext.refl _) (TxtB.one Bs)).mono ?_));rintro e Hn ⟨rfl, hb⟩;refine mv12 hb hE Bi Bm Bh B0 B2 B3 B4 B7 B8 Ba Bb fun hE Bi Bm Bh B0 B2 B3 B4 B7 B8 Ba Bb=>?_;have Fv := hb.size;refine ⟨_, rfl, pD (.bool true) (.bool true) ?_⟩;refine pT (.slice D4 3 D7) ?_;refine pS (sn_newS (us := #[.string (⟨#[119, 104, 111, 108, 101]⟩), .string (⟨#[115, 116, 97, 105, 110, 101, 100]⟩), .string (⟨#[99, 114, 97, 99, 107, 101, 100]⟩)]) (t := 9) (k := 3) (c := 3) (by kernel_rfl) ?_);intro Eh Gq F1 Ew hb hbx;have ⟨Bv, Bx, By⟩ := bq3 hbx;refine mv12 hb hE Bi Bm Bh B0 B2 B3 B4 B7 B8 Ba Bb fun hE Bi Bm Bh B0 B2 B3 B4 B7 B8 Ba Bb=>?_;have Fw := hb.size;have Gg := Bv.lt;refine pS (sc 41 #[.slice D4 3 D7, sv Eh 0 3 3] ((texts_y _ _ _ ((Dj.ext Bm)) (Ext.refl _) (TxtB.three Bv Bx By)).mono ?_));rintro e Ho ⟨rfl, hb⟩;refine mv9 hb hE Bi Bh B0 B2 B3 B4 B7 B8 fun hE Bi Bh B0 B2 B3 B4 B7 B8=>?_;refine mv2 hb Ba Bb fun Ba Bb=>?_;have Fx := hb.size;refine ⟨_, rfl, pD (.bool true) (.bool true) ?_⟩;refine zn (cK [1,13,15,26,27,28,29] (fun L => ?_));refine zc (dE Tz62_0 (fun w' => w'.cell? ⟨Cn, 0, none⟩ = some (iv ((recN San.lB 0).c : Int)) ∧ w'.cell? ⟨Cn, 1, none⟩ = some (iv ((recN San.lB 0).n : Int)) ∧ w'.cell? ⟨Cn, 2, none⟩ = some (iv ((recN San.lB 0).t : Int)) ∧ w'.cell? ⟨Cn, 3, none⟩ = some (iv ((recN San.lB 0).o : Int)) ∧ w'.cell? ⟨Cn, 4, none⟩ = some (iv ((recN San.lB 0).w : Int)) ∧ w'.cell? ⟨Cn, 5, none⟩ = some (iv ((recN San.lB 0).k : Int)) ∧ w'.cell? ⟨Cn, 6, none⟩ = some (.string ((recN San.lB 0).x)) ∧ w'.cell? ⟨b9, o9, none⟩ = some (iv ((recN San.lB 0).c : Int)) ∧ w'.cell? ⟨b9, o9 + 1, none⟩ = some (iv ((recN San.lB 0).n : Int)) ∧ w'.cell? ⟨b9, o9 + 2, none⟩ = some (iv ((recN San.lB 0).t : Int)) ∧ w'.cell? ⟨b9, o9 + 3, none⟩ = some (iv ((recN San.lB 0).o : Int)) ∧ w'.cell? ⟨b9, o9 + 4, none⟩ = some (iv ((recN San.lB 0).w : Int)) ∧ w'.cell? ⟨b9, o9 + 5, none⟩ = some (iv ((recN San.lB 0).k : Int)) ∧ w'.cell? ⟨b9, o9 + 6, none⟩ = some (.string ((recN San.lB 0).x)) ∧ w'.cell? ⟨Ec, 0, none⟩ = some (iv 2) ∧ w'.cell? ⟨Ec, 1, none⟩ = some (.slice Co 3 Cs) ∧ w'.cell? ⟨O3, 0, none⟩ = some (iv 2) ∧ w'.cell? ⟨O3, 1, none⟩ = some (.slice Cy 2 D2)) (⟨B2.1, B3.1, B4.1, B7.1, B8.1, Ba.1, Bb.1, (C1.ext B0).c0 (i := 0) (by omega), (C1.ext B0).c1 (i := 0) (by omega), (C1.ext B0).c2 (i := 0) (by omega), (C1.ext B0).c3 (i := 0) (by omega), (C1.ext B0).c4 (i := 0) (by omega), (C1.ext B0).c5 (i := 0) (by omega), (C1.ext B0).c6 (i := 0) (by omega), (Br.x Bh).1, (Bu.x Bh).1, (Be.x Bi).1, (Bg.x Bi).1⟩) (fun ops Q Gr hb hL hR hK => ?_));refine mv9 hb hE Bi Bh B0 B2 B3 B4 B7 B8 fun hE Bi Bh B0 B2 B3 B4 B7 B8=>?_;refine mv2 hb Ba Bb fun Ba Bb=>?_;have Fy := hb.size;have hS := A18 B2.1 B3.1 B4.1 B7.1 B8.1 Ba.1 Bb.1 ((C1.ext B0).c0 (i := 0) (by omega)) ((C1.ext B0).c1 (i := 0) (by omega)) ((C1.ext B0).c2 (i := 0) (by omega)) ((C1.ext B0).c3 (i := 0) (by omega)) ((C1.ext B0).c4 (i := 0) (by omega)) ((C1.ext B0).c5 (i := 0) (by omega)) ((C1.ext B0).c6 (i := 0) (by omega)) (Br.c Bh) (Bu.c Bh) (Be.c Bi) (Bg.c Bi);refine wW 0 (.bool true) 1 (.bool true) hR hS ?_;refine wW 2 (iv 0) 3 (.bool true) hR hS ?_;refine wW 4 (.bool true) 5 (.bool true) hR hS ?_;refine wW 6 (iv 0) 7 (.bool true) hR hS ?_;refine wW 8 (.bool true) 9 (.bool true) hR hS ?_;refine wM 10 (.agg #[iv ((recN San.lB 0).c : Int), iv ((recN San.lB 0).n : Int), iv ((recN San.lB 0).t : Int), iv ((recN San.lB 0).o : Int), iv ((recN San.lB 0).w : Int), iv ((recN San.lB 0).k : Int), .string ((recN San.lB 0).x)]) hR (fun w hS => ld49 (hS.1) (hS.2.1) (hS.2.2.1) (hS.2.2.2.1) (hS.2.2.2.2.1) (hS.2.2.2.2.2.1) (hS.2.2.2.2.2.2.1)) hS ?_;refine wV 11 (sv b9 o9 1 Db) hR hS ?_;refine wL 12 (pw b9 o9) hR (fun w _ => ex_index (p := sv b9 o9 1 Db) (i := iv ((0 : Nat) : Int)) rfl (by kernel_rfl) (by kernel_rfl) (ix23 (k := 0) (by omega))) hS ?_;refine wM 13 (.agg #[iv ((recN San.lB 0).c : Int), iv ((recN San.lB 0).n : Int), iv ((recN San.lB 0).t : Int), iv ((recN San.lB 0).o : Int), iv ((recN San.lB 0).w : Int), iv ((recN San.lB 0).k : Int), .string ((recN San.lB 0).x)]) hR (fun w hS => ld49 (hS.2.2.2.2.2.2.2.1) (hS.2.2.2.2.2.2.2.2.1) (hS.2.2.2.2.2.2.2.2.2.1) (hS.2.2.2.2.2.2.2.2.2.2.1) (hS.2.2.2.2.2.2.2.2.2.2.2.1) (hS.2.2.2.2.2.2.2.2.2.2.2.2.1) (hS.2.2.2.2.2.2.2.2.2.2.2.2.2.1)) hS ?_;refine wL 14 (.bool true) hR (fun w _ => ex_binV (a := .agg #[iv ((recN San.lB 0).c : Int), iv ((recN San.lB 0).n : Int), iv ((recN San.lB 0).t : Int), iv ((recN San.lB 0).o : Int), iv ((recN San.lB 0).w : Int), iv ((recN San.lB 0).k : Int), .string ((recN San.lB 0).x)]) (b := .agg #[iv ((recN San.lB 0).c : Int), iv ((recN San.lB 0).n : Int), iv ((recN San.lB 0).t : Int), iv ((recN San.lB 0).o : Int), iv ((recN San.lB 0).w : Int), iv ((recN San.lB 0).k : Int), .string ((recN San.lB 0).x)]) rfl (by kernel_rfl) (by kernel_rfl) (eqG_agg (by kernel_rfl)) (bin_eqv_t (rec_eq _ ((recN San.lB 0)) ((recN San.lB 0))) rfl)) hS ?_;refine wW 15 (.bool true) 16 (.bool true) hR hS ?_;refine wV 17 (sv b9 o9 1 Db) hR hS ?_;refine wL 18 (pw b9 o9) hR (fun w _ => ex_index (p := sv b9 o9 1 Db) (i := iv ((0 : Nat) : Int)) rfl (by kernel_rfl) (by kernel_rfl) (ix23 (k := 0) (by omega))) hS ?_
 refine wM 19 (.agg #[iv ((recN San.lB 0).c : Int), iv ((recN San.lB 0).n : Int), iv ((recN San.lB 0).t : Int), iv ((recN San.lB 0).o : Int), iv ((recN San.lB 0).w : Int), iv ((recN San.lB 0).k : Int), .string ((recN San.lB 0).x)]) hR (fun w hS => ld49 (hS.2.2.2.2.2.2.2.1) (hS.2.2.2.2.2.2.2.2.1) (hS.2.2.2.2.2.2.2.2.2.1) (hS.2.2.2.2.2.2.2.2.2.2.1) (hS.2.2.2.2.2.2.2.2.2.2.2.1) (hS.2.2.2.2.2.2.2.2.2.2.2.2.1) (hS.2.2.2.2.2.2.2.2.2.2.2.2.2.1)) hS ?_;refine wV 20 (.agg #[iv 5, iv 1, iv 200, iv 2, iv 1, iv 1, .string (⟨#[99, 114, 97, 99, 107, 101, 100]⟩)]) hR hS ?_;refine wL 21 (.bool true) hR (fun w _ => ex_binV (a := .agg #[iv ((recN San.lB 0).c : Int), iv ((recN San.lB 0).n : Int), iv ((recN San.lB 0).t : Int), iv ((recN San.lB 0).o : Int), iv ((recN San.lB 0).w : Int), iv ((recN San.lB 0).k : Int), .string ((recN San.lB 0).x)]) (b := .agg #[iv 5, iv 1, iv 200, iv 2, iv 1, iv 1, .string (⟨#[99, 114, 97, 99, 107, 101, 100]⟩)]) rfl (by kernel_rfl) (by kernel_rfl) (eqG_agg (by kernel_rfl)) (bin_eqv_t (rec_eq _ ((recN San.lB 0)) ((⟨5, 1, 200, 2, 1, 1, ⟨#[99, 114, 97, 99, 107, 101, 100]⟩⟩ : Rec))) rfl)) hS ?_;refine wW 22 (.bool true) 23 (.bool true) hR hS ?_;refine wM 24 (.agg #[iv 2, .slice Co 3 Cs]) hR (fun w hS => ld25 (hS.2.2.2.2.2.2.2.2.2.2.2.2.2.2.1) (hS.2.2.2.2.2.2.2.2.2.2.2.2.2.2.2.1)) hS ?_;refine wC 25 16 #[.agg #[iv 2, .slice Co 3 Cs]] hR ((Valid_r (r := true) _ _ ((Ct.ext Bi)) (Ext.refl _) (hRl.ext hE) San.h14).mono ?_);rintro e F4 ⟨rfl, hb⟩;refine mv9 hb hE Bi Bh B0 B2 B3 B4 B7 B8 fun hE Bi Bh B0 B2 B3 B4 B7 B8=>?_;refine mv2 hb Ba Bb fun Ba Bb=>?_;have Fz := hb.size;have hS := A18 B2.1 B3.1 B4.1 B7.1 B8.1 Ba.1 Bb.1 ((C1.ext B0).c0 (i := 0) (by omega)) ((C1.ext B0).c1 (i := 0) (by omega)) ((C1.ext B0).c2 (i := 0) (by omega)) ((C1.ext B0).c3 (i := 0) (by omega)) ((C1.ext B0).c4 (i := 0) (by omega)) ((C1.ext B0).c5 (i := 0) (by omega)) ((C1.ext B0).c6 (i := 0) (by omega)) (Br.c Bh) (Bu.c Bh) (Be.c Bi) (Bg.c Bi);refine ⟨_, rfl, hS, ?_⟩;refine wW 26 (.bool true) 27 (.bool true) hR hS ?_;refine wV 28 (.agg #[iv (-1 : Int), .slice none 0 0]) hR hS ?_;refine wC 29 16 #[.agg #[iv (-1 : Int), .slice none 0 0]] hR ((Valid_r (r := false) _ _ (RecsAt.nil F4) (Ext.refl _) (hRl.ext hE) San.h15).mono ?_);rintro e Hp ⟨rfl, hb⟩;refine mv9 hb hE Bi Bh B0 B2 B3 B4 B7 B8 fun hE Bi Bh B0 B2 B3 B4 B7 B8=>?_;refine mv2 hb Ba Bb fun Ba Bb=>?_;have G0 := hb.size;have hS := A18 B2.1 B3.1 B4.1 B7.1 B8.1 Ba.1 Bb.1 ((C1.ext B0).c0 (i := 0) (by omega)) ((C1.ext B0).c1 (i := 0) (by omega)) ((C1.ext B0).c2 (i := 0) (by omega)) ((C1.ext B0).c3 (i := 0) (by omega)) ((C1.ext B0).c4 (i := 0) (by omega)) ((C1.ext B0).c5 (i := 0) (by omega)) ((C1.ext B0).c6 (i := 0) (by omega)) (Br.c Bh) (Bu.c Bh) (Be.c Bi) (Bg.c Bi);refine ⟨_, rfl, hS, ?_⟩;refine wW 30 (.bool true) 31 (.bool true) hR hS ?_;refine wV 32 (.bool true) hR hS ?_;refine wM 33 (.agg #[iv 2, .slice Co 3 Cs]) hR (fun w hS => ld25 (hS.2.2.2.2.2.2.2.2.2.2.2.2.2.2.1) (hS.2.2.2.2.2.2.2.2.2.2.2.2.2.2.2.1)) hS ?_;refine wM 34 (.agg #[iv 2, .slice Co 3 Cs]) hR (fun w hS => ld25 (hS.2.2.2.2.2.2.2.2.2.2.2.2.2.2.1) (hS.2.2.2.2.2.2.2.2.2.2.2.2.2.2.2.1)) hS ?_;refine wC 35 30 #[.agg #[iv 2, .slice Co 3 Cs], .agg #[iv 2, .slice Co 3 Cs]] hR ((Same_r _ _ _ ((Ct.ext Bi)) (Ext.refl _) ((Ct.ext Bi)) (Ext.refl _) San.h16).mono ?_);rintro e Hq ⟨rfl, hb⟩;refine mv9 hb hE Bi Bh B0 B2 B3 B4 B7 B8 fun hE Bi Bh B0 B2 B3 B4 B7 B8=>?_;refine mv2 hb Ba Bb fun Ba Bb=>?_;have G1 := hb.size;have hS := A18 B2.1 B3.1 B4.1 B7.1 B8.1 Ba.1 Bb.1 ((C1.ext B0).c0 (i := 0) (by omega)) ((C1.ext B0).c1 (i := 0) (by omega)) ((C1.ext B0).c2 (i := 0) (by omega)) ((C1.ext B0).c3 (i := 0) (by omega)) ((C1.ext B0).c4 (i := 0) (by omega)) ((C1.ext B0).c5 (i := 0) (by omega)) ((C1.ext B0).c6 (i := 0) (by omega)) (Br.c Bh) (Bu.c Bh) (Be.c Bi) (Bg.c Bi);refine ⟨_, rfl, hS, ?_⟩;refine wW 36 (.bool true) 37 (.bool true) hR hS ?_;refine wM 38 (.agg #[iv 2, .slice Co 3 Cs]) hR (fun w hS => ld25 (hS.2.2.2.2.2.2.2.2.2.2.2.2.2.2.1) (hS.2.2.2.2.2.2.2.2.2.2.2.2.2.2.2.1)) hS ?_;refine wM 39 (.agg #[iv 2, .slice Cy 2 D2]) hR (fun w hS => ld25 (hS.2.2.2.2.2.2.2.2.2.2.2.2.2.2.2.2.1) (hS.2.2.2.2.2.2.2.2.2.2.2.2.2.2.2.2.2)) hS ?_;refine wC 40 30 #[.agg #[iv 2, .slice Co 3 Cs], .agg #[iv 2, .slice Cy 2 D2]] hR ((Same_r _ _ _ ((Ct.ext Bi)) (Ext.refl _) ((C2.ext Bi)) (Ext.refl _) San.h17).mono ?_);rintro e Hr ⟨rfl, hb⟩;refine mv9 hb hE Bi Bh B0 B2 B3 B4 B7 B8 fun hE Bi Bh B0 B2 B3 B4 B7 B8=>?_;refine mv2 hb Ba Bb fun Ba Bb=>?_;have G2 := hb.size;have hS := A18 B2.1 B3.1 B4.1 B7.1 B8.1 Ba.1 Bb.1 ((C1.ext B0).c0 (i := 0) (by omega)) ((C1.ext B0).c1 (i := 0) (by omega)) ((C1.ext B0).c2 (i := 0) (by omega)) ((C1.ext B0).c3 (i := 0) (by omega)) ((C1.ext B0).c4 (i := 0) (by omega)) ((C1.ext B0).c5 (i := 0) (by omega)) ((C1.ext B0).c6 (i := 0) (by omega)) (Br.c Bh) (Bu.c Bh) (Be.c Bi) (Bg.c Bi);refine ⟨_, rfl, hS, ?_⟩;refine wW 41 (.bool true) 42 (.bool true) hR hS ?_;refine wV 43 (.bool true) hR hS ?_;refine we hL hR hK ?_;refine zq (cK [0] (fun L => ?_));refine cw_ret (qw_ret [.bool true] rfl ⟨(by kernel_rfl), trivial⟩ ?_);exact ⟨rfl, hE⟩
end Go.Proofs.YtfmoabgjaclkpaaGreatDoor

namespace Go.Proofs.YtfmoabgjaclkpaaGreatDoor
namespace Rep
theorem lastR_app {X : List Rec} {x : Rec} : lastR (X ++ [x]) = x := by
 unfold lastR recN
 rw [List.length_append, List.length_singleton, Nat.add_sub_cancel, List.getElem?_append_right (Nat.le_refl _), Nat.sub_self]; rfl
end Rep
end Go.Proofs.YtfmoabgjaclkpaaGreatDoor

namespace Go.Proofs.YtfmoabgjaclkpaaGreatDoor
open Go.ChangeShapes Go.WideShapes Go.ChangeAt Go.RowKit
theorem own : ownKnob Tryz.prog.godebug = none := by kernel_rfl
theorem laidOut : laidOutB Tryz.prog = true := by kernel_rfl
def laidTabs : List (String × DataW Unit) := [("nadir/replica.rootless", Rows.laid_nadir_replica_rootless)]
theorem gTab : Tryz.prog.globalNamed "nadir/replica.rootless" = some 0 := by kernel_rfl
theorem tTab : (Tryz.prog.globals[0]?).map (·.type) = some 70 := by kernel_rfl
theorem door_met (os : Os) (args : Array Value) : laidMetH Tryz.prog laidTabs ((World.doorLaid Tryz.prog 19 os).forCall (fun _ _ => 0) ⟨#[], args, []⟩).memory :=
 laidMetH_of_parts3 (fuel := 8) (laidMet_of_run' 8 (by kernel_rfl) (by kernel_rfl)) (by kernel_rfl) (by kernel_rfl)
set_option maxRecDepth 100000 in
theorem lit_two {t : TypeId} {f0 f1 : Field} {W : World} {fuel : Nat} {cs : Array Value} {z0 z1 : Int} {q : List MemPlace} (hu : Tryz.prog.underlying t = some (.struct #[f0, f1])) (h0 : f0.offset = 0) (h1 : f1.offset = 1) (t0 : f0.type = 3) (t1 : f1.type = 3) (h2 : Tryz.prog.cellsOf t = 2)
  (hf : DataW.trod (fun _ => ()) Tryz.prog W 0 (fun _ => true) false fuel t cs.toList = some (.agg [.lit (.int .i64 z0), .lit (.int .i64 z1)], q)) : cs = #[.int .i64 z0, .int .i64 z1] := by
 obtain ⟨xs, m, rfl, hx, hlen, hxl, hg⟩ := DataW.trod_struct hu hf
 have hone : Tryz.prog.cellsOf 3 = 1 := by kernel_rfl
 have g0 := hg 0 f0 rfl
 have g1 := hg 1 f1 rfl
 rw [h0, t0, hone] at g0
 rw [h1, t1, hone] at g1
 have hl : cs.toList.length = 2 := by rw [hlen, h2]
 obtain ⟨l⟩ := cs
 match l, hl, xs, hxl with
 | [x0, x1], _, [y0, y1], _ =>
  have hx1 := congrArg Prod.fst hx
  simp at hx1
  obtain ⟨n0, hn0, hv0, w0⟩ := DataW.trod_int Tryz.underlying3 (show _ = some y0 from g0)
  obtain ⟨n1, hn1, hv1, w1⟩ := DataW.trod_int Tryz.underlying3 (show _ = some y1 from g1)
  simp at hn0 hn1
  subst hv0; subst hv1; subst hn0; subst hn1
  simp at hx1
  obtain ⟨rfl, rfl⟩ := hx1
  rfl
theorem tab_of_laid {W : World} (h : laidMetH Tryz.prog laidTabs W) : RootAt W := by
 rw [MakeChecks.laidMetH_plain _ _ _ (by kernel_rfl)] at h
 obtain ⟨ps, ⟨g', t', cs, fuel, p, q, hg', ht', hvar, hd, _, _⟩, _⟩ := h
 obtain rfl := Option.some.inj (gTab.symm.trans hg')
 obtain rfl := Option.some.inj (tTab.symm.trans ht')
 obtain rfl := lit_two Tryz.underlying70 rfl rfl rfl rfl (by kernel_rfl) hd
 have h0 := World.var?_cell gTab hvar 0
 have h1 := World.var?_cell gTab hvar 1
 exact ⟨h0, h1, World.block_lt_of_cell? W _ h0⟩
theorem isI_of_wf {n : Int} (h : (Lit.int .i64 n).wf = true) : IsI n := by
 simp [Lit.wf, IntKind.min, IntKind.max, IntKind.signed, IntKind.bits] at h
 exact ⟨by omega, by omega⟩
end Go.Proofs.YtfmoabgjaclkpaaGreatDoor

namespace Go.Proofs.YtfmoabgjaclkpaaGreatDoor
open Go.ChangeShapes Go.WideShapes Go.ChangeAt Go.RowKit Go.Deep
section
variable {H : Type} {enc : TypeId × Value → H} {W : World}
theorem ints_of_array {spare : Nat → Bool} {held : Bool} {t : TypeId} {k fuel : Nat} {cs : List Value} {x : DataW H × List MemPlace} (ht : Tryz.prog.underlying t = some (.array k 3)) (h : DataW.trod enc Tryz.prog W 0 spare held fuel t cs = some x) (hc : cs.length = k) :
  ∃ q : Nat → Int, ∀ j, j < k → cs[j]? = some (.int .i64 (q j)) ∧ IsI (q j) := by
 obtain ⟨xs, m, rfl, hx, hlen, hxl, hg⟩ := DataW.trod_array ht h
 have hone : Tryz.prog.cellsOf 3 = 1 := by kernel_rfl
 have each : ∀ j, j < k → ∃ n : Int, cs[j]? = some (.int .i64 n) ∧ IsI n := fun j hj => by
  have h1 := hg j hj
  rw [hone, Nat.mul_one] at h1
  have hx : xs[j]? = some (xs[j]'(by omega)) := List.getElem?_eq_getElem (by omega)
  rw [hx] at h1
  obtain ⟨n, hn, _, hw⟩ := DataW.trod_int Tryz.underlying3 h1
  have hcj : cs[j]? = some (.int .i64 n) := by
   have e : ((cs.drop j).take 1)[0]? = some (.int .i64 n) := by rw [hn]; rfl
   rw [List.getElem?_take_of_lt (by omega), List.getElem?_drop, Nat.add_zero] at e
   exact e
  exact ⟨n, hcj, isI_of_wf hw⟩
 obtain ⟨q, hq⟩ := choose_lt each
 exact ⟨q, hq⟩
end
def Quads (w : World) (v : Value) : Prop := ∃ (a : Option Addr) (n c : Nat) (q : Nat → Nat → Int), v = .slice a n c ∧ n ≤ c ∧ c ≤ 9223372036854775807 ∧ (a = none → c = 0) ∧ QAt w a n q
section
variable {H : Type} {enc : TypeId × Value → H} {W : World}
set_option maxRecDepth 100000 in
theorem open_quads {b0 : Nat} {v : Value} {d : DataW H} {p : List MemPlace} (hval : Value.okWide Tryz.prog W .any b0 22 v) (h : DataW.Trod enc Tryz.prog W 0 (fun _ => true) true 22 v d p) : Quads W v := by
  obtain ⟨a, n, c, rfl⟩ := okWide_slice Tryz.underlying22 hval
  obtain ⟨fuel, hf⟩ := h
  rcases open_slice Tryz.underlying22 hf with ⟨hcs, _⟩ | ⟨a', len, cap, m, k, D, Pl, hcs, hb, hl, hm, hmm, _, hx⟩
  · simp [Value.cells] at hcs
    obtain ⟨rfl, rfl, rfl⟩ := hcs
    exact ⟨none, 0, 0, fun _ _ => 0, rfl, by omega, by omega, fun _ => rfl, .inl rfl⟩
  · simp [Value.cells] at hcs
    obtain ⟨rfl, rfl, rfl⟩ := hcs
    unfold maxLen at hm
    rcases Nat.eq_zero_or_pos n with h0 | h0
    · exact ⟨_, _, _, fun _ _ => 0, rfl, by omega, by omega, (fun e => by cases e), .inl h0⟩
    · have h4 : Tryz.prog.cellsOf 26 = 4 := by kernel_rfl
      rw [h4] at hx
      simp only [if_true] at hmm
      subst hmm
      have each : ∀ i, i < n → ∃ q : Nat → Int, ∀ j, j < 4 → W.cell? (a'.add (i * 4 + j)) = some (.int .i64 (q j)) ∧ IsI (q j) := fun i hi => by
        obtain ⟨cs', hc1, hc2⟩ := hx i (by omega)
        obtain ⟨_, hcl, hat⟩ := World.cells?_some hc1
        obtain ⟨q, hq⟩ := ints_of_array Tryz.underlying26 hc2 hcl
        refine ⟨q, fun j hj => ⟨?_, (hq j hj).2⟩⟩
        rw [← Go.Deep.add_add, hat j hj]
        exact (hq j hj).1
      obtain ⟨q, hq⟩ := choose_lt each
      obtain ⟨b, off, spot⟩ := a'
      have hspot : spot = none := by have := World.cell?_spot (hq 0 h0 0 (by omega)).1; simpa [Addr.add] using this
      subst hspot
      refine ⟨_, _, _, q, rfl, by omega, by omega, (fun e => by cases e), .inr ⟨b, off, rfl, fun i hi j hj => ?_⟩⟩
      have := hq i hi j hj
      rw [add_plain, ← Nat.add_assoc] at this
      exact this
end
def Txt (v : Value) : Prop := ∃ s : ByteArray, v = .string s ∧ s.size ≤ 9223372036854775807
section
variable {H : Type} {enc : TypeId × Value → H} {W : World}
set_option maxRecDepth 100000 in
theorem open_text {b0 : Nat} {v : Value} {d : DataW H} {p : List MemPlace} (hval : Value.okWide Tryz.prog W .any b0 9 v) (h : DataW.Trod enc Tryz.prog W 0 (fun _ => true) true 9 v d p) : Txt v := by
 obtain ⟨s, rfl, _, _, hs⟩ := Go.ChangeMaps.open_string Tryz.underlying9 hval h
 exact ⟨s, rfl, T hs (by decide)⟩
end
end Go.Proofs.YtfmoabgjaclkpaaGreatDoor

namespace Go.Proofs.YtfmoabgjaclkpaaGreatDoor
set_option maxRecDepth 1000000
set_option maxHeartbeats 4000000
set_option synthInstance.maxHeartbeats 0
set_option synthInstance.maxSize 9999
open Go.RowKit
theorem SameRecords_r {w1 w2 : World} {a1 a2 : Option Addr} {n1 n2 : Nat} {l1 l2 : List Rec} {r : Bool} (c1 c2 : Nat) (w : World) (H1 : RecsAt w1 a1 n1 l1) (e1 : Ext w1 w) (H2 : RecsAt w2 a2 n2 l2) (e2 : Ext w2 w) (hr : decide (l1 = l2) = r) : Calls Tryz.prog 15 #[.slice a1 n1 c1, .slice a2 n2 c2] w fun e w' => e = .returned (.bool r) ∧ Ext w w' := hr ▸ SameRecords_c c1 c2 w H1 e1 H2 e2
namespace Rep
end Rep
end Go.Proofs.YtfmoabgjaclkpaaGreatDoor

namespace Go.Proofs.YtfmoabgjaclkpaaGreatDoor
namespace Rep
theorem more_miss {l1 l2 : List Rec} {x : Rec} (h : x ∈ more l1 l2) : findK l1 (x.c, x.n) = none := by
 unfold more at h
 rw [List.mem_filter, Bool.not_eq_true', Bool.eq_false_iff, Ne, hasK_iff] at h
 cases hf : findK l1 (x.c, x.n) with
 | none => rfl
 | some y => exact absurd ⟨y, (findK_some hf).1, (findK_some hf).2⟩ h.2
theorem more_sub {l1 l2 : List Rec} : ∀ x ∈ more l1 l2, x ∈ l2 := fun _x h => (List.mem_filter.1 h).1
structure Keep2 (a b : List Rec) (c d : Int) : Prop where
 m : mergeF c a d b = some (unionF a b)
 bh : behindF c a d b = some (more a b)
 z : behindF c (unionF a b) d b = some []
 k1 : keepsB (unionF a b) a = true
 k2 : keepsB (unionF a b) b = true
 k3 : keepsB b (more a b) = true
 len : (unionF a b).length = a.length + (more a b).length
 mi : ∀ x ∈ more a b, findK a (x.c, x.n) = none
 kd : keysD (unionF a b)
 kb : keysD b
theorem keep_merge {U a b : List Rec} (hU : keysD U) (h : In U a) (k : In U b) {c d : Int} (hc : 0 ≤ c ∧ c ≤ 15) (hd : 0 ≤ d ∧ d ≤ 15) (hn : U.length ≤ 80) : Keep2 a b c d := by
 have u := h.union hU k
 refine ⟨h.merge hU k hc hd hn, h.behind hU k hc hd hn, ?_, keeps_t fun x hx => (h.mem hU k).2 (.inl hx), keeps_t fun x hx => (h.mem hU k).2 (.inr hx), keeps_t more_sub, (h.uni hU k).len h.vd.srt k.vd.srt (h.cons hU k), fun x hx => more_miss hx, u.vd.keys, k.vd.keys⟩
 rw [u.behind hU k hc hd hn]
 congr 1
 refine List.eq_nil_iff_forall_not_mem.2 fun x hx => ?_
 obtain ⟨h1, h2⟩ := (mem_more (u.cons hU k)).1 hx
 exact h2 ((h.mem hU k).2 (.inr h1))
theorem Tri.keep {L : Nat → List Rec} (h : Tri 24 L) {i k : Nat} (hi : i < 3) (hk : k < 3) : Keep2 (L i) (L k) i k := by
 obtain ⟨U, hU, hUl, hUp, hIn⟩ := h.ex
 exact keep_merge hU (hIn i hi) (hIn k hk) (by omega) (by omega) (by omega)
end Rep
end Go.Proofs.YtfmoabgjaclkpaaGreatDoor

namespace Go.Proofs.YtfmoabgjaclkpaaGreatDoor
set_option maxRecDepth 1000000
set_option maxHeartbeats 4000000
set_option synthInstance.maxHeartbeats 0
set_option synthInstance.maxSize 9999
open Go.RowKit
end Go.Proofs.YtfmoabgjaclkpaaGreatDoor

namespace Go.Proofs.YtfmoabgjaclkpaaGreatDoor
namespace Rep
structure HistOf (l : List Rec) (x : Rec) (F : List Rec) : Prop where
 h : ∀ c, validB c l = true → histO c l (x.c, x.n) = some F
 mem : x ∈ F
 sub : ∀ y ∈ F, y ∈ l
 kd : keysD F
 pos : 0 < F.length
 root : (recN F 0).o = -1
 more : ∀ k, 1 ≤ k → k < F.length → ¬ (recN F k).o < 0 ∧ ¬ ltB (recN F k) (recN F (k - 1)) ∧ ∃ z, findK F ((recN F k).o, (recN F k).w) = some z ∧ z ∈ F.take k
theorem fam_keys {l : List Rec} (hv : Vd l) (k : Int × Int) : keysD (famK l k) :=
 List.Pairwise.imp_of_mem (fun {x y} hx hy h e => by
  have := hv.keys.inj (fam_mem.1 hx).1 (fam_mem.1 hy).1 e
  subst this; exact ltB_irrefl _ h) (fam_sorted hv.keys k)
theorem fam_lt {l : List Rec} (hv : Vd l) {k : Int × Int} {i j : Nat} (hi : i < (famK l k).length) (hj : j < (famK l k).length) (h : ltB (recN (famK l k) i) (recN (famK l k) j)) : i < j := by
  have hs := List.pairwise_iff_getElem.1 (fam_sorted hv.keys k)
  rcases Nat.lt_trichotomy i j with q | q | q
  · exact q
  · subst q; exact absurd h (ltB_irrefl _)
  · have := hs j i hj hi q
    rw [← recN_get hj, ← recN_get hi] at this
    exact absurd h (ltB_asymm this)
theorem root_o {l : List Rec} (hv : Vd l) {x : Rec} (hx : x ∈ l) : x.o < 0 ↔ isRoot x := by
  have h := okR_is (hv.ok x hx)
  unfold isRoot
  constructor
  · intro q
    rcases h.1 with q2 | q2
    · exact q2
    · omega
  · rintro ⟨q, _⟩; omega
theorem hist_of {l : List Rec} (hv : Vd l) {x : Rec} (hx : x ∈ l) : HistOf l x (famK l (rt l x).key) := by
  have hr := rt_is hv x hx
  have hh := fam_head hv hr.1 hr.2.1
  refine ⟨fun c hc => ?_, fam_mem.2 ⟨hx, rfl⟩, fun y hy => (fam_mem.1 hy).1, fam_keys hv _, hh.1, ?_, fun k hk hkl => ?_⟩
  · unfold histO histF
    rw [if_pos hc, show findK l (x.c, x.n) = some x from findK_mem hv.keys hx]; rfl
  · rw [hh.2]; exact hr.2.1.1
  · obtain ⟨F, hF⟩ : ∃ F, F = famK l (rt l x).key := ⟨_, rfl⟩
    have hy := fam_mem.1 (recN_mem hkl)
    have hs := List.pairwise_iff_getElem.1 (fam_sorted hv.keys (rt l x).key)
    have h0k : ltB (recN (famK l (rt l x).key) 0) (recN (famK l (rt l x).key) k) := by
      rw [recN_get hh.1, recN_get hkl]; exact hs 0 k hh.1 hkl (by omega)
    have hnr : ¬ isRoot (recN (famK l (rt l x).key) k) := fun q => by
      have e := hy.2
      rw [rt_root q] at e
      have := hv.keys.inj hy.1 hr.1 e
      rw [this, hh.2] at h0k
      exact ltB_irrefl _ h0k
    refine ⟨fun q => hnr ((root_o hv hy.1).1 q), fun q => ?_, ?_⟩
    · have h1 := hs (k - 1) k (by omega) hkl (by omega)
      rw [← recN_get (show k - 1 < _ by omega), ← recN_get hkl] at h1
      exact ltB_asymm h1 q
    · obtain ⟨z, hz, hzl, hlt⟩ := hv.tgt hy.1 hnr
      have hzF : z ∈ famK l (rt l x).key := fam_mem.2 ⟨hzl, by rw [← rt_step hv hy.1 hnr hz]; exact hy.2⟩
      have hzk : z.key = (recN (famK l (rt l x).key) k).tgt := (findK_some hz).2
      refine ⟨z, ?_, ?_⟩
      · rw [show ((recN (famK l (rt l x).key) k).o, (recN (famK l (rt l x).key) k).w) = z.key from hzk.symm]
        exact findK_mem (fam_keys hv _) hzF
      · obtain ⟨i, hi, e⟩ := mem_recN hzF
        have hik := fam_lt hv hi hkl (by rw [← e]; exact hlt)
        rw [e, recN_get hi]
        exact List.mem_take_iff_getElem.2 ⟨i, by omega, rfl⟩
theorem fold_keys {l : List Rec} (hv : Vd l) : keysD (foldF l) := by
 unfold foldF
 refine List.Pairwise.filter _ ?_
 rw [List.pairwise_map]
 refine List.Pairwise.imp_of_mem (fun {a b} ha hb h e => ?_) (roots_sorted hv.keys)
 obtain ⟨a1, a2⟩ := roots_mem.1 ha
 obtain ⟨b1, b2⟩ := roots_mem.1 hb
 have la := fam_mem.1 (recN_mem (show (famK l a.key).length - 1 < (famK l a.key).length by have := (fam_head hv a1 a2).1; omega))
 have lb := fam_mem.1 (recN_mem (show (famK l b.key).length - 1 < (famK l b.key).length by have := (fam_head hv b1 b2).1; omega))
 have hab : lastR (famK l a.key) = lastR (famK l b.key) := hv.keys.inj la.1 lb.1 e
 have h1 : (rt l (lastR (famK l a.key))).key = a.key := la.2
 have h2 : (rt l (lastR (famK l b.key))).key = b.key := lb.2
 rw [hab] at h1
 have := hv.keys.inj a1 b1 (h1.symm.trans h2)
 subst this; exact ltB_irrefl _ h
theorem fold_has {l : List Rec} {x : Rec} (hx : x ∈ l) (hr : isRoot x) : lastR (famK l x.key) ∈ foldF l ↔ ¬ (lastR (famK l x.key)).x = empty := by
 unfold foldF
 rw [List.mem_filter, decide_eq_true_iff]
 exact ⟨And.right, fun h => ⟨List.mem_map.2 ⟨x, roots_mem.2 ⟨hx, hr⟩, rfl⟩, h⟩⟩
theorem fold_sub {l : List Rec} (hv : Vd l) : ∀ y ∈ foldF l, y ∈ l ∧ ∃ r ∈ l, isRoot r ∧ y = lastR (famK l r.key) := fun y hy => by
 unfold foldF at hy
 obtain ⟨r, hr, rfl⟩ := List.mem_map.1 (List.mem_filter.1 hy).1
 obtain ⟨h1, h2⟩ := roots_mem.1 hr
 exact ⟨(fam_mem.1 (recN_mem (show (famK l r.key).length - 1 < (famK l r.key).length by have := (fam_head hv h1 h2).1; omega))).1, r, h1, h2, rfl⟩
end Rep
end Go.Proofs.YtfmoabgjaclkpaaGreatDoor

namespace Go.Proofs.YtfmoabgjaclkpaaGreatDoor
set_option maxRecDepth 1000000
set_option maxHeartbeats 4000000
set_option synthInstance.maxHeartbeats 0
set_option synthInstance.maxSize 9999
open Go.RowKit
theorem RecsAt.oneAt {w : World} {b o n i m : Nat} {l : List Rec} (h : RecsAt w (some ⟨b, o, none⟩) n l) (hi : i < n) (hm : m = 1) : RecsAt w (some ⟨b, o + i * 7, none⟩) m [recN l i] := by
 subst hm
 have h2 := (h.dropS (k := i) (by omega)).take (k := 1) (by omega)
 rwa [show (l.drop i).take 1 = [recN l i] by rw [List.drop_eq_getElem_cons (show i < l.length by rw [h.len]; exact hi), List.take_succ_cons, List.take_zero, recN_get (by rw [h.len]; exact hi)]] at h2
theorem RecsAt.lit {w : World} {O : Nat} {x : Rec} (h0 : BoxAt w O 0 (.int .i64 x.c)) (h1 : BoxAt w O 1 (.int .i64 x.n)) (h2 : BoxAt w O 2 (.int .i64 x.t)) (h3 : BoxAt w O 3 (.int .i64 x.o)) (h4 : BoxAt w O 4 (.int .i64 x.w)) (h5 : BoxAt w O 5 (.int .i64 x.k)) (h6 : BoxAt w O 6 (.string x.x)) : RecsAt w (some ⟨O, 0, none⟩) 1 [x] :=
 RecsW.at ⟨fun i y hy => by
  match i, hy with
  | 0, hy => cases hy; exact ⟨h0, h1, h2, h3, h4, h5, h6⟩
  | i + 1, hy => simp at hy⟩ rfl (by decide)
namespace Rep
theorem keeps_1 {l : List Rec} {x : Rec} (h : x ∈ l) : keepsB l [x] = true := keeps_one.trans (decide_eq_true h)
theorem keeps_0 {l : List Rec} {x : Rec} (h : ¬ x ∈ l) : keepsB l [x] = false := keeps_one.trans (decide_eq_false h)
theorem keysD.take {l : List Rec} (h : keysD l) (k : Nat) : keysD (l.take k) := List.Pairwise.sublist (List.take_sublist _ _) h
end Rep
end Go.Proofs.YtfmoabgjaclkpaaGreatDoor

namespace Go.Proofs.YtfmoabgjaclkpaaGreatDoor
namespace Rep
end Rep
end Go.Proofs.YtfmoabgjaclkpaaGreatDoor

namespace Go.Proofs.YtfmoabgjaclkpaaGreatDoor
set_option maxRecDepth 1000000
set_option maxHeartbeats 4000000
set_option synthInstance.maxHeartbeats 0
set_option synthInstance.maxSize 9999
open Go.RowKit
def BytW (w : World) (g n : Nat) : Prop := ∀ i, i < n → ∃ b : UInt8, BoxAt w g i (.int .u8 ((b.toNat : Nat) : Int))
theorem BytW.ext {w w' : World} {g n : Nat} (h : BytW w g n) (e : Ext w w') : BytW w' g n := fun i hi => by obtain ⟨b, hb⟩ := h i hi; exact ⟨b, BoxAt.ext e hb⟩
theorem BytW.set {w X : World} {g n p : Nat} {b : UInt8} (h : BytW w g n) (hv : BoxAt X g p (.int .u8 ((b.toNat : Nat) : Int))) (hk : ∀ i x, i ≠ p → BoxAt w g i x → BoxAt X g i x) : BytW X g n := fun i hi => by
 by_cases e : i = p
 · subst e; exact ⟨b, hv⟩
 · obtain ⟨c, hc⟩ := h i hi; exact ⟨c, hk i _ e hc⟩
end Go.Proofs.YtfmoabgjaclkpaaGreatDoor

namespace Go.Proofs.YtfmoabgjaclkpaaGreatDoor
namespace Rep
theorem last_fam {l : List Rec} (hv : Vd l) {r : Rec} (hr : r ∈ l) (hq : isRoot r) : lastR (famK l r.key) ∈ famK l r.key :=
 recN_mem (show (famK l r.key).length - 1 < (famK l r.key).length by have := (fam_head hv hr hq).1; omega)
theorem filt_map {f g : Rec → Rec} {p q : Rec → Bool} : ∀ {l : List Rec}, (∀ r ∈ l, p (f r) = q (g r) ∧ (p (f r) = true → f r = g r)) → (l.map f).filter p = (l.map g).filter q
 | [], _ => rfl
 | r :: l, h => by
  have ih := filt_map (f := f) (g := g) (p := p) (q := q) (l := l) fun x hx => h x (List.mem_cons_of_mem _ hx)
  obtain ⟨h1, h2⟩ := h r (List.mem_cons_self ..)
  rw [List.map_cons, List.map_cons, List.filter_cons, List.filter_cons, ← h1, ih]
  split
  · rename_i e; rw [h2 e]
  · rfl
structure Corr (l : List Rec) (old N : Rec) (lc Fb Fa : List Rec) (tx : ByteArray) (m : Nat) : Prop where
 hc : corrF 0 l ⟨0, 0, ((500 + m : Nat) : Int), old.c, old.n, 7, tx⟩ = some lc
 hb : histO 0 l (old.c, old.n) = some Fb
 ha : histO 0 lc (old.c, old.n) = some Fa
 w : foldO 0 l = some (foldF l)
 i : foldO 0 lc = some (foldF lc)
 eq : Fa = Fb ++ [N]
 pos : 0 < Fb.length
 f : N.x = tx ∧ N.o = old.c ∧ N.w = old.n ∧ N.c = 0 ∧ N.k = 7
 kb : keysD Fb
 ka : keysD Fa
 only : ∀ y ∈ foldF lc, y ∈ Fa → y = N
 same : (foldF l).filter (fun x => decide (¬ x ∈ Fb)) = (foldF lc).filter (fun x => decide (¬ x ∈ Fa))
 held : ((foldF lc).filter fun x => decide (x ∈ Fa)).length = if tx = empty then 0 else 1
 s1 : Fb.length ≤ 100
 s2 : (foldF l).length ≤ 100
 s3 : (foldF lc).length ≤ 100
theorem fold_len {l : List Rec} (hv : Vd l) : (foldF l).length ≤ l.length := nodup_len (List.Pairwise.imp (fun h e => h (congrArg Rec.key e)) (fold_keys hv)) fun y hy => (fold_sub hv y hy).1
theorem corr_is {L : Nat → List Rec} (h : Tri 24 L) {m : Nat} (hm : m < 1000) {tx : ByteArray} (ht : tx.size ≤ 20) {old : Rec} (ho : old ∈ L 0) : ∃ lc N Fb Fa, Corr (L 0) old N lc Fb Fa tx m := by
  obtain ⟨U, hU, hUl, hUp, hIn⟩ := h.ex
  have i0 := hIn 0 (by decide)
  have li := i0.len
  have hv := i0.vd
  have hok := okR_n (hv.ok old ho)
  have htm : ∀ z ∈ L 0, z.t ≤ 72 := fun z hz => by have := (hUp z (i0.sub z hz)).1; omega
  generalize L 0 = l at *
  obtain ⟨x, hx⟩ : ∃ x : Rec, x = ⟨0, 0, ((500 + m : Nat) : Int), old.c, old.n, 7, tx⟩ := ⟨_, rfl⟩
  have k := add_ok (c := 0) (l := l) (x := x) (by omega) hv (by omega) (by subst hx; exact ⟨by show 0 ≤ ((500 + m : Nat) : Int) ∧ ((500 + m : Nat) : Int) ≤ 1000000; omega, by simp, by show tx.size ≤ 4000; omega⟩)
    (fun z hz _ => by subst hx; have := htm z hz; show z.t ≤ ((500 + m : Nat) : Int); omega) (.inr ⟨old, ho, by subst hx; rfl, by subst hx; have := htm old ho; show old.t < ((500 + m : Nat) : Int); omega⟩)
  obtain ⟨N, hN⟩ : ∃ N, N = own 0 l x := ⟨_, rfl⟩
  have hlen := own_len (c := 0) (x := x) hv
  have hmem : ∀ y, y ∈ unionF l [own 0 l x] ↔ y ∈ l ∨ y = own 0 l x := fun y => own_mem hv
  rw [← hN] at k hlen hmem
  obtain ⟨lc, hlc⟩ : ∃ lc, lc = unionF l [N] := ⟨_, rfl⟩
  rw [← hlc] at k hlen hmem
  obtain ⟨v1, v2, _⟩ := add_is k
  have hvc := valid_vd v2
  have Nt : N.t = ((500 + m : Nat) : Int) := by rw [hN, hx]; rfl
  have No : N.o = old.c := by rw [hN, hx]; rfl
  have Nw : N.w = old.n := by rw [hN, hx]; rfl
  have Nx : N.x = tx := by rw [hN, hx]; rfl
  have Nk : N.k = 7 := by rw [hN, hx]; rfl
  have Nc : N.c = 0 := by rw [hN]; rfl
  have hNl : N ∈ lc := (hmem N).2 (.inr rfl)
  have hol : old ∈ lc := (hmem old).2 (.inl ho)
  have nr : ¬ isRoot N := fun z => by have := z.1; omega
  have sub : ∀ y ∈ l, y ∈ lc := fun y hy => (hmem y).2 (.inl hy)
  have rtS : ∀ y ∈ l, rt lc y = rt l y := hv.ind (fun y _ hr => by rw [rt_root hr, rt_root hr]) fun y hy z hz hr hf _ ih => by
    have hf' : findK lc y.tgt = some z := by rw [← (findK_some hf).2]; exact findK_mem hvc.keys (sub z hz)
    rw [rt_step hvc (sub y hy) hr hf', rt_step hv hy hr hf, ih]
  obtain ⟨R, hR⟩ : ∃ R, R = rt l old := ⟨_, rfl⟩
  have rtO : rt lc old = R := by rw [rtS old ho, hR]
  have rtN : rt lc N = R := by
    rw [rt_step hvc hNl nr (by rw [show N.tgt = old.key by unfold Rec.tgt Rec.key; rw [No, Nw]]; exact findK_mem hvc.keys hol), rtO]
  have hRr := rt_is hv old ho
  rw [← hR] at hRr
  have H1 := hist_of hv ho
  have H2 := hist_of hvc hol
  rw [← hR] at H1
  rw [rtO] at H2
  have memA : ∀ y, y ∈ famK lc R.key ↔ y ∈ famK l R.key ∨ y = N := fun y => by
    rw [fam_mem, fam_mem, hmem]
    constructor
    · rintro ⟨q | q, e⟩
      · exact .inl ⟨q, by rw [← rtS y q]; exact e⟩
      · exact .inr q
    · rintro (⟨q, e⟩ | q)
      · exact ⟨.inl q, by rw [rtS y q]; exact e⟩
      · exact ⟨.inr q, by rw [q, rtN]⟩
  have eq : famK lc R.key = famK l R.key ++ [N] := by
    refine uniqB (fam_sorted hvc.keys _) ?_ fun y => by rw [memA, List.mem_append, List.mem_singleton]
    rw [List.pairwise_append]
    refine ⟨fam_sorted hv.keys _, List.pairwise_singleton .., fun a ha b hb => ?_⟩
    rw [List.mem_singleton] at hb; subst hb
    left; have := htm a (fam_mem.1 ha).1; omega
  have lastA : lastR (famK lc R.key) = N := by rw [eq]; exact lastR_app
  have only : ∀ y ∈ foldF lc, y ∈ famK lc R.key → y = N := fun y hy hF => by
    obtain ⟨_, r, hr, hq, e⟩ := fold_sub hvc y hy
    have h1 := (fam_mem.1 (last_fam hvc hr hq)).2
    rw [← e] at h1
    have h2 := (fam_mem.1 hF).2
    rw [e, show r.key = R.key from h1.symm.trans h2, lastA]
  have roots : rootsF lc = rootsF l := uniqB (roots_sorted hvc.keys) (roots_sorted hv.keys) fun y => by
    rw [roots_mem, roots_mem, hmem]
    exact ⟨fun ⟨q, e⟩ => ⟨q.elim id fun z => absurd (z ▸ e) nr, e⟩, fun ⟨q, e⟩ => ⟨.inl q, e⟩⟩
  have fam_ne : ∀ r : Rec, r.key ≠ R.key → famK lc r.key = famK l r.key := fun r hr => uniqB (fam_sorted hvc.keys _) (fam_sorted hv.keys _) fun y => by
    rw [fam_mem, fam_mem, hmem]
    constructor
    · rintro ⟨q | q, e⟩
      · exact ⟨q, by rw [← rtS y q]; exact e⟩
      · rw [q, rtN] at e; exact absurd e.symm hr
    · rintro ⟨q, e⟩; exact ⟨.inl q, by rw [rtS y q]; exact e⟩
  refine ⟨lc, N, famK l R.key, famK lc R.key, ?_, H1.h 0 v1, H2.h 0 v2, if_pos v1, if_pos v2, eq, H1.pos, ⟨Nx, No, Nw, Nc, Nk⟩, H1.kd, H2.kd, only, ?_, ?_, ?_, ?_, ?_⟩
  · exact (if_neg fun z => by have z1 : old.c = -1 := z.1; omega : corrF 0 l _ = _).trans (hx ▸ k)
  · unfold foldF
    rw [List.filter_filter, List.filter_filter, roots]
    refine filt_map fun r hr => ?_
    obtain ⟨r1, r2⟩ := roots_mem.1 hr
    have m1 := last_fam hv r1 r2
    have m2 := last_fam hvc (sub r r1) r2
    by_cases e : r.key = R.key
    · rw [e] at m1 m2 ⊢
      rw [decide_eq_false (p := ¬ lastR (famK l R.key) ∈ famK l R.key) (fun q => q m1), decide_eq_false (p := ¬ lastR (famK lc R.key) ∈ famK lc R.key) (fun q => q m2)]
      exact ⟨rfl, fun q => by simp at q⟩
    · rw [fam_ne r e]
      have n1 : ¬ lastR (famK l r.key) ∈ famK l R.key := fun q => e ((fam_mem.1 m1).2.symm.trans (fam_mem.1 q).2)
      have n2 : ¬ lastR (famK l r.key) ∈ famK lc R.key := fun q => by
        rw [fam_ne r e] at m2
        rcases (memA _).1 q with q | q
        · exact n1 q
        · rw [q] at m1
          have := (fam_mem.1 m1).1
          have := rtS N this
          rw [rtN] at this
          have h3 := (fam_mem.1 m1).2
          rw [← this] at h3
          exact e h3.symm
      rw [decide_eq_true n1, decide_eq_true n2]
      exact ⟨rfl, fun _ => rfl⟩
  · have hh := fold_has (sub R hRr.1) hRr.2.1
    rw [lastA, Nx] at hh
    have hk : keysD ((foldF lc).filter fun x => decide (x ∈ famK lc R.key)) := List.Pairwise.filter _ (fold_keys hvc)
    have hall : ∀ y ∈ (foldF lc).filter (fun x => decide (x ∈ famK lc R.key)), y = N ∧ N ∈ foldF lc := fun y hy => by
      obtain ⟨h1, h2⟩ := List.mem_filter.1 hy
      have e := only y h1 (of_decide_eq_true h2)
      exact ⟨e, e ▸ h1⟩
    by_cases he : tx = empty
    · rw [if_pos he]
      refine List.length_eq_zero_iff.2 (List.eq_nil_iff_forall_not_mem.2 fun y hy => ?_)
      exact hh.1 (hall y hy).2 he
    · rw [if_neg he]
      have hin : N ∈ (foldF lc).filter fun x => decide (x ∈ famK lc R.key) := List.mem_filter.2 ⟨hh.2 he, decide_eq_true ((memA N).2 (.inr rfl))⟩
      generalize (foldF lc).filter (fun x => decide (x ∈ famK lc R.key)) = Z at *
      match Z, hin, hall, hk with
      | [], hin, _, _ => cases hin
      | [z], _, _, _ => rfl
      | a :: b :: t, _, hall, hk =>
        exfalso
        have h1 := (hall a (List.mem_cons_self ..)).1
        have h2 := (hall b (List.mem_cons_of_mem _ (List.mem_cons_self ..))).1
        unfold keysD at hk
        rw [List.pairwise_cons] at hk
        exact hk.1 b (List.mem_cons_self ..) (by rw [h1, h2])
  · have := fam_len hv R.key; omega
  · have := fold_len hv; omega
  · have := fold_len hvc; omega
theorem filt_take {p : Rec → Bool} {l : List Rec} {i : Nat} (h : i < l.length) : (l.take (i + 1)).filter p = (l.take i).filter p ++ if p (recN l i) = true then [recN l i] else [] := by
 rw [recN_take h, List.filter_append]
 congr 1
 cases e : p (recN l i) <;> simp [e]
theorem filt_le {p : Rec → Bool} {l : List Rec} {i : Nat} : ((l.take i).filter p).length ≤ i := T (List.length_filter_le _ _) (List.length_take_le _ _)
end Rep
end Go.Proofs.YtfmoabgjaclkpaaGreatDoor

namespace Go.Proofs.YtfmoabgjaclkpaaGreatDoor
set_option maxRecDepth 1000000
set_option maxHeartbeats 4000000
set_option synthInstance.maxHeartbeats 0
set_option synthInstance.maxSize 9999
open Go.RowKit
def Tz74_0 : List Row := [(some 45, [10], []), (some 46, [45], [0]), (some 47, [1], []), (some 48, [10], []), (some 49, [48], [3]), (some 50, [49], [4]), (some 51, [47, 50], [2, 5]), (some 52, [46, 51], [1, 6]), (some 53, [52], [7]), (some 11, [], []), (none, [11, 53], [9, 8, 6, 0, 1, 2, 3, 4, 5, 6, 7, 8, 9])]
def Tz74_1 : List Row := [(some 55, [10], []), (some 56, [2], []), (some 57, [56], [1]), (some 58, [57], [2]), (some 59, [11], []), (some 60, [59], [4]), (some 61, [11], []), (some 62, [61], [6]), (some 63, [3], []), (some 64, [55, 58, 60, 62, 63], [0, 3, 5, 7, 8, 2]), (some 54, [64], [9]), (some 65, [54], [10]), (some 66, [54], [10]), (some 12, [], []), (none, [12, 65], [13, 11, 9, 0, 1, 2, 3, 4, 5, 6, 7, 8, 9, 10, 11, 13]), (some 13, [66], [12, 14, 0, 1, 2, 3, 4, 5, 6, 7, 8, 9, 10, 11, 12, 13, 14])]
def Tz74_2 : List Row := [(some 210, [20], []), (some 211, [27], []), (some 212, [210, 211], [0, 1]), (some 213, [212], [2]), (some 214, [22], []), (some 215, [213, 214], [3, 4])]
theorem ReplicaCorrected_walk (w : World) (v0 : Value) (o0 : Quads w v0) (i1 : Int) (h1 : IsI i1) (i2 : Int) (h2 : IsI i2) (v3 : Value) (o3 : Txt v3) (hRl : RootAt w) : Calls Tryz.prog 6 #[v0, iv i1, iv i2, v3] w fun e w' => e = .returned (.bool true) ∧ Ext w w' := by
 obtain ⟨ax, nx, cx, q, rfl, Jn, Jo, _, hQ⟩ := o0;obtain ⟨s3, rfl, Jp⟩ := o3;refine calls_cw 231 [(3, .string s3), (2, iv i2), (1, iv i1), (0, .slice ax nx cx)] Tryz.func6 rfl Tryz.ntmps6 (by kernel_rfl) (by kernel_rfl) (fun L => ?_);have hE := Ext.refl w;refine zc (zp (pT (.bool false) ?_));refine zn (zc (zp (pS (sc 10 #[] ((sane_c _ (hRl.ext (Ext.refl _))).mono ?_)))));rintro e w1 ⟨rfl, hb⟩;replace hE := hE.trans hb;have Er := hb.size;refine ⟨_, rfl, pT (.bool true) ?_⟩;refine zn (zc (zc (zp (pD (.bool true) (.bool false) ?_))));refine zn (zf ?_);refine cw_skip (zq (zc (zp (pT (.slice ax nx cx) ?_))));refine pS (sc 11 #[.slice ax nx cx] ((Made_c cx _ hQ hE (by omega)).mono ?_));rintro e w3 ⟨B, LL, rfl, hB, hT, hTri, hb⟩;replace hE := hE.trans hb;have Es := hb.size;have Bh := Ext.refl w3;obtain ⟨a0, n0, c0, Fg, Fh, H0, Jm, Io⟩ := hT 0 (by omega);replace Fg : BoxAt w3 B 0 (iv 0) := Fg;replace Fh : BoxAt w3 B 1 (.slice a0 n0 c0) := Fh;refine ⟨_, rfl, pU (pw B 0) (xi (sv B 0 3 3) (iv ((0 : Nat) : Int)) (ix28z (k := 0) (by omega))) ?_⟩;refine pU (.agg #[iv 0, .slice a0 n0 c0]) (xl (ld25 (Fg.1) (Fh.1))) ?_;refine pS (sw 25 #[iv 0, .slice none 0 0] ?_);intro O6 X7 Fz J2 hb hbx;have ⟨Bm, Bi⟩ := bq2 hbx;refine mv2 hb hE Bh fun hE Bh=>?_;have E1 := hb.size;have Jq := Bm.lt;refine pP (sn_set2 (O := O6) (j := 0) (v := iv 0) (v' := .slice a0 n0 c0) (xt (pw O6 0) (.agg #[iv 0, .slice a0 n0 c0]) (st25 Bm.1 Bm.2 Bi.1 Bi.2)) Bm Bi ?_);intro El ho Bm Bi hk;replace hE := ho.ext hE (T (T Er Es) (Nat.le_of_eq Fz));replace Bh := ho.ext Bh (Nat.le_of_eq Fz);have Cr := Nat.le_of_eq ho.size.symm;clear ho hk;refine zn (zc (zc (zp (pT (pw O6 1) ?_))));refine pU (.slice a0 n0 c0) (xl (ld23 (Bi.1))) ?_;refine pT (iv n0) ?_
 by_cases Fm : ((n0 : Nat) : Int) = (0 : Int)
 ·
  refine pU (.bool true) (eE ((n0 : Nat) : Int) (0 : Int) (Fm)) ?_;refine zn (cK [1,2,3,9,10,38] (fun L => ?_));refine zt ?_;refine zc (zp (pD (.bool true) (.bool true) ?_));refine zn (cw_ret (qw_then_ret (qw_ret [.bool true] rfl ⟨(by kernel_rfl), trivial⟩ ?_)));exact ⟨rfl, hE⟩
 ·
  refine pU (.bool false) (eN ((n0 : Nat) : Int) (0 : Int) (Fm)) ?_;refine zn (cK [1,2,3,9,10,38] (fun L => ?_));refine zf ?_;refine cw_skip (zq (zc (zp (pD (.string s3) (.string s3) ?_))));refine pT (iv ((ByteArray.size s3 : Nat) : Int)) ?_;refine pU (iv (((min (ByteArray.size s3) 20 : Nat) : Int) : Int)) (ev_int (show _ = Result.ok (Next.value (Value.int .i64 (if (20 : Int) < ((ByteArray.size s3 : Nat) : Int) then (20 : Int) else ((ByteArray.size s3 : Nat) : Int)))) _ from by kernel_rfl) (by split <;> omega)) ?_;refine pU (.string (ByteArray.extract s3 0 (min (ByteArray.size s3) 20))) (ex_slice (p := .string s3) rfl (by kernel_rfl) (by kernel_rfl) (by kernel_rfl) (by kernel_rfl) (slS_01 (j := min (ByteArray.size s3) 20) (by omega))) ?_;refine pT (.string (ByteArray.extract s3 0 (min (ByteArray.size s3) 20))) ?_;refine zn (cw_seq ?_);obtain ⟨tx, htx, hts⟩ : ∃ t, ByteArray.extract s3 0 (min (ByteArray.size s3) 20) = t ∧ t.size ≤ 20 := ⟨_, rfl, by rw [ByteArray.size_extract]; omega⟩;rw [htx];have B0 := Ext.refl El;have Ge := (H0.ext Bh);obtain ⟨b9, o9, Ii, Gk, Bt⟩ := Ge.parts;have It := Ge.len;have Iy := Ge.max;have Im := Gk (by omega);obtain rfl := Ii (by omega);have hpn := Rep.pk_lt (c := i1) (n := n0) (by omega);have hpm := Rep.pk_lt (c := i2) (n := 1000) (by decide);obtain ⟨lc, N9, Fb, Fa, hC⟩ := Rep.corr_is hTri (m := Rep.pk i2 1000) hpm hts (old := (recN (LL 0) (Rep.pk i1 n0))) (recN_mem (by omega));refine cw_join (fun ws' Y => ∃ D1 : Nat, ws' = [(2, iv i2), (3, .string tx), (9, .bool true), (10, pw O6 0), (11, pw D1 0)] ∧ Ext w Y ∧ Ext w3 Y ∧ Ext El Y ∧ BoxAt Y D1 0 (iv ((recN ((LL 0)) (Rep.pk i1 n0)).c : Int)) ∧ BoxAt Y D1 1 (iv ((recN ((LL 0)) (Rep.pk i1 n0)).n : Int)) ∧ BoxAt Y D1 2 (iv ((recN ((LL 0)) (Rep.pk i1 n0)).t : Int)) ∧ BoxAt Y D1 3 (iv ((recN ((LL 0)) (Rep.pk i1 n0)).o : Int)) ∧ BoxAt Y D1 4 (iv ((recN ((LL 0)) (Rep.pk i1 n0)).w : Int)) ∧ BoxAt Y D1 5 (iv ((recN ((LL 0)) (Rep.pk i1 n0)).k : Int)) ∧ BoxAt Y D1 6 (.string ((recN ((LL 0)) (Rep.pk i1 n0)).x)) ∧ El.heap.size ≤ Y.heap.size ∧ El.heap.size ≤ D1) (fun hJ => ?_) ?_
  ·
   refine dE Tz74_0 (fun w' => w'.cell? ⟨O6, 1, none⟩ = some (sv b9 o9 n0 c0) ∧ w'.cell? ⟨b9, o9 + (Rep.pk i1 n0) * 7, none⟩ = some (iv ((recN ((LL 0)) (Rep.pk i1 n0)).c : Int)) ∧ w'.cell? ⟨b9, o9 + (Rep.pk i1 n0) * 7 + 1, none⟩ = some (iv ((recN ((LL 0)) (Rep.pk i1 n0)).n : Int)) ∧ w'.cell? ⟨b9, o9 + (Rep.pk i1 n0) * 7 + 2, none⟩ = some (iv ((recN ((LL 0)) (Rep.pk i1 n0)).t : Int)) ∧ w'.cell? ⟨b9, o9 + (Rep.pk i1 n0) * 7 + 3, none⟩ = some (iv ((recN ((LL 0)) (Rep.pk i1 n0)).o : Int)) ∧ w'.cell? ⟨b9, o9 + (Rep.pk i1 n0) * 7 + 4, none⟩ = some (iv ((recN ((LL 0)) (Rep.pk i1 n0)).w : Int)) ∧ w'.cell? ⟨b9, o9 + (Rep.pk i1 n0) * 7 + 5, none⟩ = some (iv ((recN ((LL 0)) (Rep.pk i1 n0)).k : Int)) ∧ w'.cell? ⟨b9, o9 + (Rep.pk i1 n0) * 7 + 6, none⟩ = some (.string ((recN ((LL 0)) (Rep.pk i1 n0)).x))) (⟨Bi.1, Bt.c0 (i := Rep.pk i1 n0) (by omega), Bt.c1 (i := Rep.pk i1 n0) (by omega), Bt.c2 (i := Rep.pk i1 n0) (by omega), Bt.c3 (i := Rep.pk i1 n0) (by omega), Bt.c4 (i := Rep.pk i1 n0) (by omega), Bt.c5 (i := Rep.pk i1 n0) (by omega), Bt.c6 (i := Rep.pk i1 n0) (by omega)⟩) (fun ops Q Jh hb hL hR hK => ?_);refine mv3 hb hE Bh B0 fun hE Bh B0=>?_;have D9 := hb.size;have hS := A8 (Bi.c B0) ((Bt.ext B0).c0 (i := Rep.pk i1 n0) (by omega)) ((Bt.ext B0).c1 (i := Rep.pk i1 n0) (by omega)) ((Bt.ext B0).c2 (i := Rep.pk i1 n0) (by omega)) ((Bt.ext B0).c3 (i := Rep.pk i1 n0) (by omega)) ((Bt.ext B0).c4 (i := Rep.pk i1 n0) (by omega)) ((Bt.ext B0).c5 (i := Rep.pk i1 n0) (by omega)) ((Bt.ext B0).c6 (i := Rep.pk i1 n0) (by omega));refine wV 0 (pw O6 1) hR hS ?_;refine wM 1 (sv b9 o9 n0 c0) hR (fun w hS => ld23 (hS.1)) hS ?_;refine wW 2 (iv i1) 3 (pw O6 1) hR hS ?_;refine wM 4 (sv b9 o9 n0 c0) hR (fun w hS => ld23 (hS.1)) hS ?_;refine wV 5 (iv n0) hR hS ?_;refine zw 6 9 hR ?_ ?_
   ·
    refine sc 21 #[iv i1, iv n0] ((lpick_c (c := i1) (n := n0) _ h1 (by omega)).mono ?_);rintro e Jr ⟨rfl, hb⟩;refine mv3 hb hE Bh B0 fun hE Bh B0=>?_;have Ei := hb.size;have hS := A8 (Bi.c B0) ((Bt.ext B0).c0 (i := Rep.pk i1 n0) (by omega)) ((Bt.ext B0).c1 (i := Rep.pk i1 n0) (by omega)) ((Bt.ext B0).c2 (i := Rep.pk i1 n0) (by omega)) ((Bt.ext B0).c3 (i := Rep.pk i1 n0) (by omega)) ((Bt.ext B0).c4 (i := Rep.pk i1 n0) (by omega)) ((Bt.ext B0).c5 (i := Rep.pk i1 n0) (by omega)) ((Bt.ext B0).c6 (i := Rep.pk i1 n0) (by omega));refine ⟨_, rfl, hS, ?_⟩;refine wL 7 (pw b9 (o9 + (Rep.pk i1 n0) * 7)) hR (fun w _ => ex_index (p := sv b9 o9 n0 c0) (i := iv ((Rep.pk i1 n0 : Nat) : Int)) rfl (by kernel_rfl) (by kernel_rfl) (ix23 (k := Rep.pk i1 n0) (by omega))) hS ?_;refine wM 8 (.agg #[iv ((recN ((LL 0)) (Rep.pk i1 n0)).c : Int), iv ((recN ((LL 0)) (Rep.pk i1 n0)).n : Int), iv ((recN ((LL 0)) (Rep.pk i1 n0)).t : Int), iv ((recN ((LL 0)) (Rep.pk i1 n0)).o : Int), iv ((recN ((LL 0)) (Rep.pk i1 n0)).w : Int), iv ((recN ((LL 0)) (Rep.pk i1 n0)).k : Int), .string ((recN ((LL 0)) (Rep.pk i1 n0)).x)]) hR (fun w hS => ld49 (hS.2.1) (hS.2.2.1) (hS.2.2.2.1) (hS.2.2.2.2.1) (hS.2.2.2.2.2.1) (hS.2.2.2.2.2.2.1) (hS.2.2.2.2.2.2.2)) hS ?_;refine wN 9 49 #[iv 0, iv 0, iv 0, iv 0, iv 0, iv 0, .string (⟨#[]⟩)] hR ?_;intro D1 I4 E5 Hs hb hbx;have ⟨Bc, Bf, Cs, Ct, Cu, Cv, Cw⟩ := bq7 hbx;refine mv3 hb hE Bh B0 fun hE Bh B0=>?_;have Gs := hb.size;have J3 := Bc.lt;refine ⟨⟨(Bi.c B0), (Bt.ext B0).c0 (i := Rep.pk i1 n0) (by omega), (Bt.ext B0).c1 (i := Rep.pk i1 n0) (by omega), (Bt.ext B0).c2 (i := Rep.pk i1 n0) (by omega), (Bt.ext B0).c3 (i := Rep.pk i1 n0) (by omega), (Bt.ext B0).c4 (i := Rep.pk i1 n0) (by omega), (Bt.ext B0).c5 (i := Rep.pk i1 n0) (by omega), (Bt.ext B0).c6 (i := Rep.pk i1 n0) (by omega)⟩, ?_⟩;refine wS 10 hR (sn_setK7 (O := D1) (j := 0) (v0 := iv ((recN ((LL 0)) (Rep.pk i1 n0)).c : Int)) (v1 := iv ((recN ((LL 0)) (Rep.pk i1 n0)).n : Int)) (v2 := iv ((recN ((LL 0)) (Rep.pk i1 n0)).t : Int)) (v3 := iv ((recN ((LL 0)) (Rep.pk i1 n0)).o : Int)) (v4 := iv ((recN ((LL 0)) (Rep.pk i1 n0)).w : Int)) (v5 := iv ((recN ((LL 0)) (Rep.pk i1 n0)).k : Int)) (v6 := .string ((recN ((LL 0)) (Rep.pk i1 n0)).x)) (ex_store (p := pw D1 0) (v := .agg #[iv ((recN ((LL 0)) (Rep.pk i1 n0)).c : Int), iv ((recN ((LL 0)) (Rep.pk i1 n0)).n : Int), iv ((recN ((LL 0)) (Rep.pk i1 n0)).t : Int), iv ((recN ((LL 0)) (Rep.pk i1 n0)).o : Int), iv ((recN ((LL 0)) (Rep.pk i1 n0)).w : Int), iv ((recN ((LL 0)) (Rep.pk i1 n0)).k : Int), .string ((recN ((LL 0)) (Rep.pk i1 n0)).x)]) rfl (by kernel_rfl) (by kernel_rfl) (st49 Bc.1 Bc.2 Bf.1 Bf.2 Cs.1 Cs.2 Ct.1 Ct.2 Cu.1 Cu.2 Cv.1 Cv.2 Cw.1 Cw.2)) Bc Bf Cs Ct Cu Cv Cw ?_);intro I5 ho Bc Bf Cs Ct Cu Cv Cw hk;replace hE := ho.ext hE (by omega);replace Bh := ho.ext Bh (by omega);replace B0 := ho.ext B0 (T (T D9 Ei) (Nat.le_of_eq E5));have Gt := Nat.le_of_eq ho.size.symm;clear ho hk;refine ⟨⟨(Bi.c B0), (Bt.ext B0).c0 (i := Rep.pk i1 n0) (by omega), (Bt.ext B0).c1 (i := Rep.pk i1 n0) (by omega), (Bt.ext B0).c2 (i := Rep.pk i1 n0) (by omega), (Bt.ext B0).c3 (i := Rep.pk i1 n0) (by omega), (Bt.ext B0).c4 (i := Rep.pk i1 n0) (by omega), (Bt.ext B0).c5 (i := Rep.pk i1 n0) (by omega), (Bt.ext B0).c6 (i := Rep.pk i1 n0) (by omega)⟩, ?_⟩;refine we hL hR hK ?_;exact zl hJ [2, 3, 9, 10, 11] ⟨D1, rfl, hE, Bh, B0, Bc, Bf, Cs, Ct, Cu, Cv, Cw, (T D9 (T Ei (T Gs Gt))), (T (T D9 Ei) (Nat.le_of_eq E5))⟩
   ·
    refine sw 49 #[iv 0, iv 0, iv 0, iv 0, iv 0, iv 0, .string (⟨#[]⟩)] ?_;intro G4 Ji E6 Ht hb hbx;have ⟨Ce, Ck, Cl, Cm, Cn, Co, Cp⟩ := bq7 hbx;refine mv3 hb hE Bh B0 fun hE Bh B0=>?_;have Gu := hb.size;have J4 := Ce.lt;refine ⟨⟨(Bi.c B0), (Bt.ext B0).c0 (i := Rep.pk i1 n0) (by omega), (Bt.ext B0).c1 (i := Rep.pk i1 n0) (by omega), (Bt.ext B0).c2 (i := Rep.pk i1 n0) (by omega), (Bt.ext B0).c3 (i := Rep.pk i1 n0) (by omega), (Bt.ext B0).c4 (i := Rep.pk i1 n0) (by omega), (Bt.ext B0).c5 (i := Rep.pk i1 n0) (by omega), (Bt.ext B0).c6 (i := Rep.pk i1 n0) (by omega)⟩, ?_⟩;refine wC 6 21 #[iv i1, iv n0] hR ((lpick_c (c := i1) (n := n0) _ h1 (by omega)).mono ?_);rintro e Jg ⟨rfl, hb⟩;refine mv9 hb hE Bh B0 Ce Ck Cl Cm Cn Co fun hE Bh B0 Ce Ck Cl Cm Cn Co=>?_;replace Cp := Cp.x hb;have Gv := hb.size;have hS := A8 (Bi.c B0) ((Bt.ext B0).c0 (i := Rep.pk i1 n0) (by omega)) ((Bt.ext B0).c1 (i := Rep.pk i1 n0) (by omega)) ((Bt.ext B0).c2 (i := Rep.pk i1 n0) (by omega)) ((Bt.ext B0).c3 (i := Rep.pk i1 n0) (by omega)) ((Bt.ext B0).c4 (i := Rep.pk i1 n0) (by omega)) ((Bt.ext B0).c5 (i := Rep.pk i1 n0) (by omega)) ((Bt.ext B0).c6 (i := Rep.pk i1 n0) (by omega));refine ⟨_, rfl, hS, ?_⟩;refine wL 7 (pw b9 (o9 + (Rep.pk i1 n0) * 7)) hR (fun w _ => ex_index (p := sv b9 o9 n0 c0) (i := iv ((Rep.pk i1 n0 : Nat) : Int)) rfl (by kernel_rfl) (by kernel_rfl) (ix23 (k := Rep.pk i1 n0) (by omega))) hS ?_;refine wM 8 (.agg #[iv ((recN ((LL 0)) (Rep.pk i1 n0)).c : Int), iv ((recN ((LL 0)) (Rep.pk i1 n0)).n : Int), iv ((recN ((LL 0)) (Rep.pk i1 n0)).t : Int), iv ((recN ((LL 0)) (Rep.pk i1 n0)).o : Int), iv ((recN ((LL 0)) (Rep.pk i1 n0)).w : Int), iv ((recN ((LL 0)) (Rep.pk i1 n0)).k : Int), .string ((recN ((LL 0)) (Rep.pk i1 n0)).x)]) hR (fun w hS => ld49 (hS.2.1) (hS.2.2.1) (hS.2.2.2.1) (hS.2.2.2.2.1) (hS.2.2.2.2.2.1) (hS.2.2.2.2.2.2.1) (hS.2.2.2.2.2.2.2)) hS ?_;refine wS 10 hR (sn_setK7 (O := G4) (j := 0) (v0 := iv ((recN ((LL 0)) (Rep.pk i1 n0)).c : Int)) (v1 := iv ((recN ((LL 0)) (Rep.pk i1 n0)).n : Int)) (v2 := iv ((recN ((LL 0)) (Rep.pk i1 n0)).t : Int)) (v3 := iv ((recN ((LL 0)) (Rep.pk i1 n0)).o : Int)) (v4 := iv ((recN ((LL 0)) (Rep.pk i1 n0)).w : Int)) (v5 := iv ((recN ((LL 0)) (Rep.pk i1 n0)).k : Int)) (v6 := .string ((recN ((LL 0)) (Rep.pk i1 n0)).x)) (ex_store (p := pw G4 0) (v := .agg #[iv ((recN ((LL 0)) (Rep.pk i1 n0)).c : Int), iv ((recN ((LL 0)) (Rep.pk i1 n0)).n : Int), iv ((recN ((LL 0)) (Rep.pk i1 n0)).t : Int), iv ((recN ((LL 0)) (Rep.pk i1 n0)).o : Int), iv ((recN ((LL 0)) (Rep.pk i1 n0)).w : Int), iv ((recN ((LL 0)) (Rep.pk i1 n0)).k : Int), .string ((recN ((LL 0)) (Rep.pk i1 n0)).x)]) rfl (by kernel_rfl) (by kernel_rfl) (st49 Ce.1 Ce.2 Ck.1 Ck.2 Cl.1 Cl.2 Cm.1 Cm.2 Cn.1 Cn.2 Co.1 Co.2 Cp.1 Cp.2)) Ce Ck Cl Cm Cn Co Cp ?_);intro I6 ho Ce Ck Cl Cm Cn Co Cp hk;replace hE := ho.ext hE (by omega);replace Bh := ho.ext Bh (T (T E1 (T Cr D9)) (Nat.le_of_eq E6));replace B0 := ho.ext B0 (T D9 (Nat.le_of_eq E6));have Gw := Nat.le_of_eq ho.size.symm;clear ho hk;refine ⟨⟨(Bi.c B0), (Bt.ext B0).c0 (i := Rep.pk i1 n0) (by omega), (Bt.ext B0).c1 (i := Rep.pk i1 n0) (by omega), (Bt.ext B0).c2 (i := Rep.pk i1 n0) (by omega), (Bt.ext B0).c3 (i := Rep.pk i1 n0) (by omega), (Bt.ext B0).c4 (i := Rep.pk i1 n0) (by omega), (Bt.ext B0).c5 (i := Rep.pk i1 n0) (by omega), (Bt.ext B0).c6 (i := Rep.pk i1 n0) (by omega)⟩, ?_⟩;refine we hL hR hK ?_;exact zl hJ [2, 3, 9, 10, 11] ⟨G4, rfl, hE, Bh, B0, Ce, Ck, Cl, Cm, Cn, Co, Cp, (T D9 (T Gu (T Gv Gw))), (T D9 (Nat.le_of_eq E6))⟩
  ·
   clear hE Bh B0;rintro L ws Fd ⟨D1, rfl, hE, Bh, B0, Bc, Bf, Cs, Ct, Cu, Cv, Cw, Ci, Iz⟩;have J5 := Bc.lt;refine qw_then ?_;refine cw_seq ?_;have B2 := Ext.refl Fd;refine cw_join (fun ws' Y => ∃ E9 : Option Addr, ∃ E7 Ed Ek : Nat, ws' = [(3, .string tx), (9, .bool true), (10, pw O6 0), (11, pw D1 0), (12, pw Ek 0), (13, iv 0)] ∧ Ext w Y ∧ Ext w3 Y ∧ Ext El Y ∧ Ext Fd Y ∧ RecsAt Y E9 E7 lc ∧ E7 ≤ Ed ∧ BoxAt Y Ek 0 (iv 0) ∧ BoxAt Y Ek 1 (.slice E9 E7 Ed) ∧ Fd.heap.size ≤ Y.heap.size ∧ Fd.heap.size ≤ Ek) (fun hJ => ?_) ?_
   ·
    refine dE Tz74_1 (fun w' => w'.cell? ⟨O6, 0, none⟩ = some (iv 0) ∧ w'.cell? ⟨O6, 1, none⟩ = some (sv b9 o9 n0 c0) ∧ w'.cell? ⟨D1, 0, none⟩ = some (iv ((recN ((LL 0)) (Rep.pk i1 n0)).c : Int)) ∧ w'.cell? ⟨D1, 1, none⟩ = some (iv ((recN ((LL 0)) (Rep.pk i1 n0)).n : Int))) (⟨(Bm.x B0).1, (Bi.x B0).1, Bc.1, Bf.1⟩) (fun ops Q Jj hb hL hR hK => ?_);refine mv4 hb hE Bh B0 B2 fun hE Bh B0 B2=>?_;have Cj := hb.size;have hS := A4 (Bm.c B0) (Bi.c B0) (Bc.c B2) (Bf.c B2);refine wM 0 (.agg #[iv 0, sv b9 o9 n0 c0]) hR (fun w hS => ld25 (hS.1) (hS.2.1)) hS ?_;refine wW 1 (iv i2) 4 (pw D1 0) hR hS ?_;refine wM 5 (iv ((recN ((LL 0)) (Rep.pk i1 n0)).c : Int)) hR (fun w hS => ld3 (hS.2.2.1)) hS ?_;refine wV 6 (pw D1 1) hR hS ?_;refine wM 7 (iv ((recN ((LL 0)) (Rep.pk i1 n0)).n : Int)) hR (fun w hS => ld3 (hS.2.2.2)) hS ?_;refine wV 8 (.string tx) hR hS ?_;refine zw 2 13 hR ?_ ?_
    ·
     refine sc 21 #[iv i2, iv 1000] ((lpick_c (c := i2) (n := 1000) _ h2 (by omega)).mono ?_);rintro e Js ⟨rfl, hb⟩;refine mv4 hb hE Bh B0 B2 fun hE Bh B0 B2=>?_;have D5 := hb.size;have hS := A4 (Bm.c B0) (Bi.c B0) (Bc.c B2) (Bf.c B2);refine ⟨_, rfl, hS, ?_⟩;refine wL 3 (iv (((500 + (Rep.pk i2 1000) : Nat) : Int) : Int)) hR (fun w _ => ev_wrap (by kernel_rfl) (by omega) (by omega)) hS ?_;refine zw 9 13 hR ?_ ?_
     ·
      refine sc 22 #[.agg #[iv 0, sv b9 o9 n0 c0], iv (((500 + (Rep.pk i2 1000) : Nat) : Int) : Int), iv ((recN ((LL 0)) (Rep.pk i1 n0)).c : Int), iv ((recN ((LL 0)) (Rep.pk i1 n0)).n : Int), iv 7, .string tx] ((Correct_y _ (((500 + (Rep.pk i2 1000) : Nat) : Int)) (recN (LL 0) (Rep.pk i1 n0)).c (recN (LL 0) (Rep.pk i1 n0)).n 7 tx _ ((H0.ext Bh)) (Ext.refl _) (hRl.ext hE) hC.hc).mono ?_);rintro e I0 ⟨E9, E7, Ed, rfl, Em, F2, Hp, hb⟩;refine mv4 hb hE Bh B0 B2 fun hE Bh B0 B2=>?_;have Ec := hb.size;have Eg := Ext.refl I0;have hS := A4 (Bm.c B0) (Bi.c B0) (Bc.c B2) (Bf.c B2);refine ⟨_, rfl, hS, ?_⟩;refine wW 10 (.tuple #[.agg #[iv 0, .slice E9 E7 Ed], iv 0]) 11 (.agg #[iv 0, .slice E9 E7 Ed]) hR hS ?_;refine wV 12 (iv 0) hR hS ?_;refine wN 13 25 #[iv 0, .slice none 0 0] hR ?_;intro Ek I7 Dd Hu hb hbx;have ⟨By, Cf⟩ := bq2 hbx;refine mv5 hb hE Bh B0 B2 Eg fun hE Bh B0 B2 Eg=>?_;have Gx := hb.size;have J6 := By.lt;refine ⟨⟨(Bm.c B0), (Bi.c B0), (Bc.c B2), (Bf.c B2)⟩, ?_⟩;refine wS 14 hR (sn_set2 (O := Ek) (j := 0) (v := iv 0) (v' := .slice E9 E7 Ed) (ex_store (p := pw Ek 0) (v := .agg #[iv 0, .slice E9 E7 Ed]) rfl (by kernel_rfl) (by kernel_rfl) (st25 By.1 By.2 Cf.1 Cf.2)) By Cf ?_);intro I8 ho By Cf hk;replace hE := ho.ext hE (by omega);replace Bh := ho.ext Bh (by omega);replace B0 := ho.ext B0 (by omega);replace B2 := ho.ext B2 (T (T Cj (T D5 Ec)) (Nat.le_of_eq Dd));replace Eg := ho.ext Eg (Nat.le_of_eq Dd);have Gy := Nat.le_of_eq ho.size.symm;clear ho hk;refine ⟨⟨(Bm.c B0), (Bi.c B0), (Bc.c B2), (Bf.c B2)⟩, ?_⟩;refine wV 15 (iv 0) hR (⟨(Bm.c B0), (Bi.c B0), (Bc.c B2), (Bf.c B2)⟩) ?_;refine we hL hR hK ?_;exact zl hJ [3, 9, 10, 11, 12, 13] ⟨E9, E7, Ed, Ek, rfl, hE, Bh, B0, B2, (Em.ext Eg), F2, By, Cf, (T Cj (T D5 (T Ec (T Gx Gy)))), (T (T Cj (T D5 Ec)) (Nat.le_of_eq Dd))⟩
     ·
      refine sw 25 #[iv 0, .slice none 0 0] ?_;intro G5 Jk Dy Hv hb hbx;have ⟨Cg, Cq⟩ := bq2 hbx;refine mv4 hb hE Bh B0 B2 fun hE Bh B0 B2=>?_;have Gz := hb.size;have He := Cg.lt;refine ⟨⟨(Bm.c B0), (Bi.c B0), (Bc.c B2), (Bf.c B2)⟩, ?_⟩;refine wC 9 22 #[.agg #[iv 0, sv b9 o9 n0 c0], iv (((500 + (Rep.pk i2 1000) : Nat) : Int) : Int), iv ((recN ((LL 0)) (Rep.pk i1 n0)).c : Int), iv ((recN ((LL 0)) (Rep.pk i1 n0)).n : Int), iv 7, .string tx] hR ((Correct_y _ (((500 + (Rep.pk i2 1000) : Nat) : Int)) (recN (LL 0) (Rep.pk i1 n0)).c (recN (LL 0) (Rep.pk i1 n0)).n 7 tx _ ((H0.ext Bh)) (Ext.refl _) (hRl.ext hE) hC.hc).mono ?_);rintro e Hi ⟨Fk, G2, G0, rfl, Gf, Fo, Fq, hb⟩;refine mv6 hb hE Bh B0 B2 Cg Cq fun hE Bh B0 B2 Cg Cq=>?_;have H3 := hb.size;have Ib := Ext.refl Hi;have hS := A4 (Bm.c B0) (Bi.c B0) (Bc.c B2) (Bf.c B2);refine ⟨_, rfl, hS, ?_⟩;refine wW 10 (.tuple #[.agg #[iv 0, .slice Fk G2 G0], iv 0]) 11 (.agg #[iv 0, .slice Fk G2 G0]) hR hS ?_;refine wV 12 (iv 0) hR hS ?_;have Ee := Gf;refine wS 14 hR (sn_set2 (O := G5) (j := 0) (v := iv 0) (v' := .slice Fk G2 G0) (ex_store (p := pw G5 0) (v := .agg #[iv 0, .slice Fk G2 G0]) rfl (by kernel_rfl) (by kernel_rfl) (st25 Cg.1 Cg.2 Cq.1 Cq.2)) Cg Cq ?_);intro I9 ho Cg Cq hk;replace hE := ho.ext hE (by omega);replace Bh := ho.ext Bh (by omega);replace B0 := ho.ext B0 (T (T Ci (T Cj D5)) (Nat.le_of_eq Dy));replace B2 := ho.ext B2 (T (T Cj D5) (Nat.le_of_eq Dy));replace Ee := Ee.turn ho (fun ad e => Nat.ne_of_gt (Nat.lt_of_lt_of_le (Nat.lt_of_lt_of_le He (Nat.le_refl _)) (Fq ad e)));have H4 := Nat.le_of_eq ho.size.symm;clear ho hk;refine ⟨⟨(Bm.c B0), (Bi.c B0), (Bc.c B2), (Bf.c B2)⟩, ?_⟩;refine wV 15 (iv 0) hR (⟨(Bm.c B0), (Bi.c B0), (Bc.c B2), (Bf.c B2)⟩) ?_;refine we hL hR hK ?_;exact zl hJ [3, 9, 10, 11, 12, 13] ⟨Fk, G2, G0, G5, rfl, hE, Bh, B0, B2, Ee, Fo, Cg, Cq, (T Cj (T D5 (T Gz (T H3 H4)))), (T (T Cj D5) (Nat.le_of_eq Dy))⟩
    ·
     refine sw 25 #[iv 0, .slice none 0 0] ?_;intro G6 Jl Dz Hw hb hbx;have ⟨Bz, Ca⟩ := bq2 hbx;refine mv4 hb hE Bh B0 B2 fun hE Bh B0 B2=>?_;have H5 := hb.size;have Hf := Bz.lt;refine ⟨⟨(Bm.c B0), (Bi.c B0), (Bc.c B2), (Bf.c B2)⟩, ?_⟩;refine wC 2 21 #[iv i2, iv 1000] hR ((lpick_c (c := i2) (n := 1000) _ h2 (by omega)).mono ?_);rintro e Jt ⟨rfl, hb⟩;refine mv6 hb hE Bh B0 B2 Bz Ca fun hE Bh B0 B2 Bz Ca=>?_;have Fy := hb.size;have hS := A4 (Bm.c B0) (Bi.c B0) (Bc.c B2) (Bf.c B2);refine ⟨_, rfl, hS, ?_⟩;refine wL 3 (iv (((500 + (Rep.pk i2 1000) : Nat) : Int) : Int)) hR (fun w _ => ev_wrap (by kernel_rfl) (by omega) (by omega)) hS ?_;refine wC 9 22 #[.agg #[iv 0, sv b9 o9 n0 c0], iv (((500 + (Rep.pk i2 1000) : Nat) : Int) : Int), iv ((recN ((LL 0)) (Rep.pk i1 n0)).c : Int), iv ((recN ((LL 0)) (Rep.pk i1 n0)).n : Int), iv 7, .string tx] hR ((Correct_y _ (((500 + (Rep.pk i2 1000) : Nat) : Int)) (recN (LL 0) (Rep.pk i1 n0)).c (recN (LL 0) (Rep.pk i1 n0)).n 7 tx _ ((H0.ext Bh)) (Ext.refl _) (hRl.ext hE) hC.hc).mono ?_);rintro e Hj ⟨Fl, G3, G1, rfl, Gg, Fp, Fr, hb⟩;refine mv6 hb hE Bh B0 B2 Bz Ca fun hE Bh B0 B2 Bz Ca=>?_;have H6 := hb.size;have Ic := Ext.refl Hj;have hS := A4 (Bm.c B0) (Bi.c B0) (Bc.c B2) (Bf.c B2);refine ⟨_, rfl, hS, ?_⟩;refine wW 10 (.tuple #[.agg #[iv 0, .slice Fl G3 G1], iv 0]) 11 (.agg #[iv 0, .slice Fl G3 G1]) hR hS ?_;refine wV 12 (iv 0) hR hS ?_;have Ef := Gg;refine wS 14 hR (sn_set2 (O := G6) (j := 0) (v := iv 0) (v' := .slice Fl G3 G1) (ex_store (p := pw G6 0) (v := .agg #[iv 0, .slice Fl G3 G1]) rfl (by kernel_rfl) (by kernel_rfl) (st25 Bz.1 Bz.2 Ca.1 Ca.2)) Bz Ca ?_);intro Ia ho Bz Ca hk;replace hE := ho.ext hE (by omega);replace Bh := ho.ext Bh (by omega);replace B0 := ho.ext B0 (T (T Ci Cj) (Nat.le_of_eq Dz));replace B2 := ho.ext B2 (T Cj (Nat.le_of_eq Dz));replace Ef := Ef.turn ho (fun ad e => Nat.ne_of_gt (Nat.lt_of_lt_of_le (Nat.lt_of_lt_of_le Hf Fy) (Fr ad e)));have Ha := Nat.le_of_eq ho.size.symm;clear ho hk;refine ⟨⟨(Bm.c B0), (Bi.c B0), (Bc.c B2), (Bf.c B2)⟩, ?_⟩;refine wV 15 (iv 0) hR (⟨(Bm.c B0), (Bi.c B0), (Bc.c B2), (Bf.c B2)⟩) ?_;refine we hL hR hK ?_;exact zl hJ [3, 9, 10, 11, 12, 13] ⟨Fl, G3, G1, G6, rfl, hE, Bh, B0, B2, Ef, Fp, Bz, Ca, (T Cj (T H5 (T Fy (T H6 Ha)))), (T Cj (Nat.le_of_eq Dz))⟩
   ·
    clear hE Bh B0 B2;rintro L ws G7 ⟨E9, E7, Ed, Ek, rfl, hE, Bh, B0, B2, Em, F2, By, Cf, D4, J0⟩;have Bg := Ext.refl G7;have J7 := By.lt;refine zq (zc (zp (pU (.agg #[iv 0, sv b9 o9 n0 c0]) (xl (ld25 (Bm.c B0) (Bi.c B0))) ?_)));refine pT (pw D1 0) ?_;refine pU (iv ((recN ((LL 0)) (Rep.pk i1 n0)).c : Int)) (xl (ld3 (Bc.c B2))) ?_;refine pT (pw D1 1) ?_;refine pU (iv ((recN ((LL 0)) (Rep.pk i1 n0)).n : Int)) (xl (ld3 (Bf.c B2))) ?_;refine pS (sc 24 #[.agg #[iv 0, sv b9 o9 n0 c0], iv ((recN ((LL 0)) (Rep.pk i1 n0)).c : Int), iv ((recN ((LL 0)) (Rep.pk i1 n0)).n : Int)] ((History_y _ _ ((H0.ext Bh)) (Ext.refl _) (hRl.ext hE) hC.hb).mono ?_));rintro e Et ⟨Dw, Bj, E0, rfl, En, Hm, hb⟩;refine mv5 hb hE Bh B0 B2 Bg fun hE Bh B0 B2 Bg=>?_;have C0 := hb.size;have B4 := Ext.refl Et;refine ⟨_, rfl, pD (.tuple #[.slice Dw Bj E0, iv 0]) (.slice Dw Bj E0) ?_⟩;refine pD (iv 0) (.slice Dw Bj E0) ?_;refine pT (iv 0) ?_;refine zn (cK [3,9,10,11,12,13,14,15] (fun L => ?_));refine zc (zp (pU (.agg #[iv 0, .slice E9 E7 Ed]) (xl (ld25 (By.c Bg) (Cf.c Bg))) ?_));refine pT (pw D1 0) ?_;refine pU (iv ((recN ((LL 0)) (Rep.pk i1 n0)).c : Int)) (xl (ld3 (Bc.c B2))) ?_;refine pT (pw D1 1) ?_;refine pU (iv ((recN ((LL 0)) (Rep.pk i1 n0)).n : Int)) (xl (ld3 (Bf.c B2))) ?_;refine pS (sc 24 #[.agg #[iv 0, .slice E9 E7 Ed], iv ((recN ((LL 0)) (Rep.pk i1 n0)).c : Int), iv ((recN ((LL 0)) (Rep.pk i1 n0)).n : Int)] ((History_y _ _ ((Em.ext Bg)) (Ext.refl _) (hRl.ext hE) hC.ha).mono ?_));rintro e Eu ⟨Dv, C3, C2, rfl, Dx, Gn, hb⟩;refine mv6 hb hE Bh B0 B2 Bg B4 fun hE Bh B0 B2 Bg B4=>?_;have Bs := hb.size;have B7 := Ext.refl Eu;refine ⟨_, rfl, pD (.tuple #[.slice Dv C3 C2, iv 0]) (.slice Dv C3 C2) ?_⟩;refine pD (iv 0) (.slice Dv C3 C2) ?_;refine pT (iv 0) ?_;refine zn (cK [3,9,10,11,12,13,14,15,16,17] (fun L => ?_));refine zc (zp (pU (.agg #[iv 0, sv b9 o9 n0 c0]) (xl (ld25 (Bm.c B0) (Bi.c B0))) ?_));refine pS (sc 13 #[.agg #[iv 0, sv b9 o9 n0 c0]] ((Fold_y _ _ ((H0.ext Bh)) (Ext.refl _) (hRl.ext hE) hC.w).mono ?_));rintro e Ev ⟨E8, C4, Ch, rfl, E3, Gp, hb⟩;refine mv7 hb hE Bh B0 B2 Bg B4 B7 fun hE Bh B0 B2 Bg B4 B7=>?_;have Bo := hb.size;have B8 := Ext.refl Ev;refine ⟨_, rfl, pD (.tuple #[.slice E8 C4 Ch, iv 0]) (.slice E8 C4 Ch) ?_⟩;refine pD (iv 0) (.slice E8 C4 Ch) ?_;refine pT (iv 0) ?_;refine zn (cK [3,9,11,12,13,14,15,16,17,18,19] (fun L => ?_));refine zc (zp (pU (.agg #[iv 0, .slice E9 E7 Ed]) (xl (ld25 (By.c Bg) (Cf.c Bg))) ?_));refine pS (sc 13 #[.agg #[iv 0, .slice E9 E7 Ed]] ((Fold_y _ _ ((Em.ext Bg)) (Ext.refl _) (hRl.ext hE) hC.i).mono ?_));rintro e Ew ⟨D8, Br, Bw, rfl, E4, Gq, hb⟩;refine mv7 hb hE Bh B0 B2 Bg B4 B7 fun hE Bh B0 B2 Bg B4 B7=>?_;replace B8 := B8.trans hb;have Bn := hb.size;have Bb := Ext.refl Ew;refine ⟨_, rfl, pD (.tuple #[.slice D8 Br Bw, iv 0]) (.slice D8 Br Bw) ?_⟩;refine pD (iv 0) (.slice D8 Br Bw) ?_;refine pT (iv 0) ?_;refine zn (cK [3,9,11,13,14,15,16,17,18,19,20,21] (fun L => ?_));refine zc (cw_seq ?_);have hlb := (((En.ext B4))).len;have hla := (((Dx.ext B7))).len;have hlw := (((E3.ext B8))).len;have hli := ((E4)).len;have hab := congrArg List.length hC.eq;rw [List.length_append, List.length_singleton, hlb, hla] at hab;have hbp := hC.pos;have J1 := hC.s1;have Gr := hC.s2;have Fs := hC.s3;refine zp (pD (iv 0) (.bool false) ?_);refine pD (.bool false) (iv 0) ?_;refine pD (.bool false) (.bool false) ?_;refine pD (.bool false) (iv 0) ?_;refine pD (.bool false) (.bool false) ?_;refine pD (.bool false) (iv 0) ?_;refine pD (.bool false) (.bool false) ?_;refine pD (.bool false) (iv 0) ?_;refine pD (.bool false) (.bool false) ?_;refine pD (.bool false) (.slice Dw Bj E0) ?_;refine pT (iv Bj) ?_;refine pU (.bool false) (eN ((Bj : Nat) : Int) (0 : Int) (by omega)) ?_;refine pD (.bool false) (.bool false) ?_;refine pD (.slice Dv C3 C2) (iv C3) ?_;refine pD (.slice Dw Bj E0) (iv Bj) ?_;refine pU (iv ((Bj + 1 : Nat) : Int)) (ew (by omega) (by omega)) ?_;refine pU (.bool false) (ev_nne (show _ = Result.ok (Next.value (Value.bool (((C3 : Nat) : Int) != ((Bj + 1 : Nat) : Int)))) _ from by kernel_rfl) (by omega)) ?_;refine pD (.bool false) (.bool false) ?_;refine pD (.slice Dv C3 C2) (.slice Dw Bj E0) ?_;refine pT (iv Bj) ?_;refine pU (.slice Dv Bj C2) (ex_slice (p := .slice Dv C3 C2) rfl (by kernel_rfl) (by kernel_rfl) (by kernel_rfl) (by kernel_rfl) (sl23_010a (m := Bj) (by omega) (by omega))) ?_;refine pT (.slice Dw Bj E0) ?_;refine pS (sc 15 #[.slice Dv Bj C2, .slice Dw Bj E0] ((SameRecords_r _ _ _ (((Dx.ext B7)).take (k := Bj) (by omega)) (Ext.refl _) ((En.ext B4)) (Ext.refl _) (decide_eq_true (by rw [hC.eq, ← hlb, List.take_left]))).mono ?_));rintro e Ey ⟨rfl, hb⟩;refine mv9 hb hE Bh B0 B2 Bg B4 B7 B8 Bb fun hE Bh B0 B2 Bg B4 B7 B8 Bb=>?_;have Bk := hb.size;refine ⟨_, rfl, pD (.bool false) (.bool false) ?_⟩;refine zn (cK [3,9,11,14,16,18,20,134] (fun L => ?_));refine zf ?_;refine cw_skip (qw_then ?_);refine cw_seq ?_;have Be := Ext.refl Ey;have Gb := (Dx.ext B7);obtain ⟨b4, o4, Ie, Gh, Fi⟩ := Gb.parts;have Ip := Gb.len;have Iu := Gb.max;have Ij := Gh (by omega);obtain rfl := Ie (by omega);have hlast : recN Fa Bj = N9 := by unfold recN;rw [hC.eq, ← hlb, List.getElem?_append_right (Nat.le_refl _), Nat.sub_self];rfl
    refine zp (pD (sv b4 o4 C3 C2) (.slice Dw Bj E0) ?_);refine pT (iv Bj) ?_;refine pU (pw b4 (o4 + Bj * 7)) (xi (sv b4 o4 C3 C2) (iv Bj) (ix23 (k := Bj) (by omega))) ?_;refine pU (.agg #[iv ((recN Fa Bj).c : Int), iv ((recN Fa Bj).n : Int), iv ((recN Fa Bj).t : Int), iv ((recN Fa Bj).o : Int), iv ((recN Fa Bj).w : Int), iv ((recN Fa Bj).k : Int), .string ((recN Fa Bj).x)]) (xl (ld49 (Fi.c0 (i := Bj) (by omega)) (Fi.c1 (i := Bj) (by omega)) (Fi.c2 (i := Bj) (by omega)) (Fi.c3 (i := Bj) (by omega)) (Fi.c4 (i := Bj) (by omega)) (Fi.c5 (i := Bj) (by omega)) (Fi.c6 (i := Bj) (by omega)))) ?_;refine pS (sw 49 #[iv 0, iv 0, iv 0, iv 0, iv 0, iv 0, .string (⟨#[]⟩)] ?_);intro C1 Ga Cb Hb hb hbx;have ⟨Bx, Cc, Cd, C5, C6, C7, C8⟩ := bq7 hbx;refine mv9 hb hE Bh B0 B2 Bg B4 B7 B8 Bb fun hE Bh B0 B2 Bg B4 B7 B8 Bb=>?_;replace Be := Be.trans hb;have Bp := hb.size;have Hx := Bx.lt;refine pP (sn_setK7 (O := C1) (j := 0) (v0 := iv ((recN Fa Bj).c : Int)) (v1 := iv ((recN Fa Bj).n : Int)) (v2 := iv ((recN Fa Bj).t : Int)) (v3 := iv ((recN Fa Bj).o : Int)) (v4 := iv ((recN Fa Bj).w : Int)) (v5 := iv ((recN Fa Bj).k : Int)) (v6 := .string ((recN Fa Bj).x)) (xt (pw C1 0) (.agg #[iv ((recN Fa Bj).c : Int), iv ((recN Fa Bj).n : Int), iv ((recN Fa Bj).t : Int), iv ((recN Fa Bj).o : Int), iv ((recN Fa Bj).w : Int), iv ((recN Fa Bj).k : Int), .string ((recN Fa Bj).x)]) (st49 Bx.1 Bx.2 Cc.1 Cc.2 Cd.1 Cd.2 C5.1 C5.2 C6.1 C6.2 C7.1 C7.2 C8.1 C8.2)) Bx Cc Cd C5 C6 C7 C8 ?_);intro E2 ho Bx Cc Cd C5 C6 C7 C8 hk;replace hE := ho.ext hE (by omega);replace Bh := ho.ext Bh (by omega);replace B0 := ho.ext B0 (by omega);replace B2 := ho.ext B2 (by omega);replace Bg := ho.ext Bg (by omega);replace B4 := ho.ext B4 (by omega);replace B7 := ho.ext B7 (T (T Bo (T Bn Bk)) (Nat.le_of_eq Cb));replace B8 := ho.ext B8 (T (T Bn Bk) (Nat.le_of_eq Cb));replace Bb := ho.ext Bb (T Bk (Nat.le_of_eq Cb));replace Be := ho.ext Be (Nat.le_of_eq Cb);have Bq := Nat.le_of_eq ho.size.symm;clear ho hk;refine zn (zc (zc (zp (pT (pw C1 6) ?_))));refine pU (.string ((recN Fa Bj).x)) (xl (ld9 (C8.1))) ?_;refine pT (.string tx) ?_;refine pU (.bool false) (ex_binV (a := .string ((recN Fa Bj).x)) (b := .string tx) rfl (by kernel_rfl) (by kernel_rfl) eqG_str (bin_nqs_t (by rw [hlast]; exact hC.f.1))) ?_;refine pD (.bool false) (pw C1 3) ?_;refine pU (iv ((recN Fa Bj).o : Int)) (xl (ld3 (C5.1))) ?_;refine pT (pw D1 0) ?_;refine pU (iv ((recN ((LL 0)) (Rep.pk i1 n0)).c : Int)) (xl (ld3 (Bc.c B2))) ?_;refine pU (.bool false) (ev_nne (show _ = Result.ok (Next.value (Value.bool (((recN Fa Bj).o : Int) != ((recN ((LL 0)) (Rep.pk i1 n0)).c : Int)))) _ from by kernel_rfl) (by rw [hlast]; exact hC.f.2.1)) ?_;refine pD (.bool false) (.bool false) ?_;refine pT (pw C1 4) ?_;refine pU (iv ((recN Fa Bj).w : Int)) (xl (ld3 (C6.1))) ?_;refine pT (pw D1 1) ?_;refine pU (iv ((recN ((LL 0)) (Rep.pk i1 n0)).n : Int)) (xl (ld3 (Bf.c B2))) ?_;refine pU (.bool false) (ev_nne (show _ = Result.ok (Next.value (Value.bool (((recN Fa Bj).w : Int) != ((recN ((LL 0)) (Rep.pk i1 n0)).n : Int)))) _ from by kernel_rfl) (by rw [hlast]; exact hC.f.2.2.1)) ?_;refine pD (.bool false) (.bool false) ?_;refine pT (pw C1 0) ?_;refine pU (iv ((recN Fa Bj).c : Int)) (xl (ld3 (Bx.1))) ?_;refine pU (.bool false) (ev_nne (show _ = Result.ok (Next.value (Value.bool (((recN Fa Bj).c : Int) != (0 : Int)))) _ from by kernel_rfl) (by rw [hlast]; exact hC.f.2.2.2.1)) ?_;refine pD (.bool false) (.bool false) ?_;refine pT (pw C1 5) ?_;refine pU (iv ((recN Fa Bj).k : Int)) (xl (ld3 (C7.1))) ?_;refine pU (.bool false) (ev_nne (show _ = Result.ok (Next.value (Value.bool (((recN Fa Bj).k : Int) != (7 : Int)))) _ from by kernel_rfl) (by rw [hlast]; exact hC.f.2.2.2.2)) ?_;refine pT (.bool false) ?_;refine zn (cK [3,9,14,16,18,20,22,167] (fun L => ?_));refine zf ?_;refine cw_skip (zq (zc (zp (pT (.slice none 0 0) ?_))));refine zn (zc (zp (pT (.slice none 0 0) ?_)));refine zn (zc (zc (zp (pT (iv 0) ?_))));refine zn (cw_block ?_);have B3 := Ext.refl E2;have Gc := (E3.ext B8);obtain ⟨b5, o5, Ig, Gi, Fj⟩ := Gc.parts;have Iq := Gc.len;have Iv := Gc.max;refine cw_loop [3, 9, 14, 16, 18, 20, 22, 23, 24, 25] (fun ws' wr m => ∃ k : Nat, ∃ aoA : Option Addr, ∃ moA coA : Nat, ws' = [(3, .string tx), (9, .bool true), (14, .slice Dw Bj E0), (16, sv b4 o4 C3 C2), (18, .slice E8 C4 Ch), (20, .slice D8 Br Bw), (22, pw C1 0), (23, .slice aoA moA coA), (24, .slice none 0 0), (25, iv k)] ∧ m = C4 - k ∧ E2.heap.size ≤ wr.heap.size ∧ Ext w wr ∧ Ext w3 wr ∧ Ext El wr ∧ Ext Fd wr ∧ Ext G7 wr ∧ Ext Et wr ∧ Ext Eu wr ∧ Ext Ev wr ∧ Ext Ew wr ∧ Ext Ey wr ∧ Ext E2 wr ∧ OwnL recR E2.heap.size 49 7 (.slice aoA moA coA) wr ((((Rep.foldF (LL 0)).take k).filter (fun x => decide (¬ x ∈ Fb)))) ∧ k ≤ C4 ∧ (((Rep.foldF (LL 0)).take k).filter (fun x => decide (¬ x ∈ Fb))).length = moA ∧ moA ≤ coA) (ws0 := [(3, .string tx), (9, .bool true), (14, .slice Dw Bj E0), (16, sv b4 o4 C3 C2), (18, .slice E8 C4 Ch), (20, .slice D8 Br Bw), (22, pw C1 0), (23, .slice none 0 0), (24, .slice none 0 0), (25, iv 0)]) (by kernel_rfl) _ ⟨0, none, 0, 0, rfl, rfl, Nat.le_refl _, hE, Bh, B0, B2, Bg, B4, B7, B8, Bb, Be, B3, OwnL.nil _ _ _ _ _, Nat.zero_le _, rfl, Nat.le_refl _⟩ ?_;clear hE Bh B0 B2 Bg B4 B7 B8 Bb Be B3;rintro J8 L ws Ej ⟨k, aoA, moA, coA, rfl, rfl, C9, hE, Bh, B0, B2, Bg, B4, B7, B8, Bb, Be, B3, owA, hkA, holA, hcapA⟩
    have hbkA := owA.lt
    by_cases hlt : k < C4
    ·
     have Ik := Gi (by omega);obtain rfl := Ig (by omega);have hms := Rep.filt_take (p := fun x => decide (¬ x ∈ Fb)) (l := (Rep.foldF (LL 0))) (i := k) (by omega);have hmi := Rep.filt_le (p := fun x => decide (¬ x ∈ Fb)) (l := (Rep.foldF (LL 0))) (i := k);refine zc (zc (zp (pD (iv k) (sv b5 o5 C4 Ch) ?_)));refine pT (iv C4) ?_;refine pU (.bool true) (ed (((k : Nat) : Int) < ((C4 : Nat) : Int)) (by omega)) ?_;refine zn (zt ?_);refine cw_skip (zq (zc (cw_block ?_)));refine cw_seq ?_
     by_cases hq : recN (Rep.foldF (LL 0)) k ∈ Fb
     ·
      refine zp (pD (.slice Dw Bj E0) (sv b5 o5 C4 Ch) ?_);refine pD (iv k) (iv k) ?_;refine pU (iv ((k + 1 : Nat) : Int)) (ew (by omega) (by omega)) ?_;refine pU (sv b5 (o5 + k * 7) ((k + 1) - k) (Ch - k)) (ex_slice (p := sv b5 o5 C4 Ch) rfl (by kernel_rfl) (by kernel_rfl) (by kernel_rfl) (by kernel_rfl) (sl23_110 (k := k) (m := k + 1) (by omega) (by omega) (by omega))) ?_;refine pS (sc 37 #[.slice Dw Bj E0, sv b5 (o5 + k * 7) ((k + 1) - k) (Ch - k)] ((keeps_r (r := true) _ _ _ ((En.ext B4)) (Ext.refl _) (RecsAt.oneAt (i := k) ((E3.ext B8)) (by omega) (by omega)) (Ext.refl _) hC.kb (Rep.keeps_1 hq)).mono ?_));rintro e Ja ⟨rfl, hb⟩;refine mv12 hb hE Bh B0 B2 Bg B4 B7 B8 Bb Be B3 owA fun hE Bh B0 B2 Bg B4 B7 B8 Bb Be B3 owA=>?_;have Ft := hb.size;refine ⟨_, rfl, pT (.bool false) ?_⟩;refine zn (cK [3,9,14,16,18,20,22,23,24,25,181] (fun L => ?_));refine zf ?_;refine cw_skip (qw_block (zq (zp (pT (iv k) ?_))));refine pU (iv ((k + 1 : Nat) : Int)) (ew (by omega) (by omega)) ?_;refine pT (iv ((k + 1 : Nat) : Int)) ?_;refine pl_nil (qw_round [3, 9, 14, 16, 18, 20, 22, 23, 24, 25] (ws' := [(3, .string tx), (9, .bool true), (14, .slice Dw Bj E0), (16, sv b4 o4 C3 C2), (18, sv b5 o5 C4 Ch), (20, .slice D8 Br Bw), (22, pw C1 0), (23, .slice aoA moA coA), (24, .slice none 0 0), (25, iv ((k + 1 : Nat) : Int))]) (by kernel_rfl) _ ?_ ⟨(k + 1), aoA, moA, coA, rfl, rfl, (T C9 Ft), hE, Bh, B0, B2, Bg, B4, B7, B8, Bb, Be, B3, (by rw [hms, if_neg (by simp [hq]), List.append_nil]; exact owA), by omega, (by rw [hms, if_neg (by simp [hq]), List.append_nil]; exact holA), hcapA⟩);omega
     ·
      refine zp (pD (.slice Dw Bj E0) (sv b5 o5 C4 Ch) ?_);refine pD (iv k) (iv k) ?_;refine pU (iv ((k + 1 : Nat) : Int)) (ew (by omega) (by omega)) ?_;refine pU (sv b5 (o5 + k * 7) ((k + 1) - k) (Ch - k)) (ex_slice (p := sv b5 o5 C4 Ch) rfl (by kernel_rfl) (by kernel_rfl) (by kernel_rfl) (by kernel_rfl) (sl23_110 (k := k) (m := k + 1) (by omega) (by omega) (by omega))) ?_;refine pS (sc 37 #[.slice Dw Bj E0, sv b5 (o5 + k * 7) ((k + 1) - k) (Ch - k)] ((keeps_r (r := false) _ _ _ ((En.ext B4)) (Ext.refl _) (RecsAt.oneAt (i := k) ((E3.ext B8)) (by omega) (by omega)) (Ext.refl _) hC.kb (Rep.keeps_0 hq)).mono ?_));rintro e Jb ⟨rfl, hb⟩;refine mv12 hb hE Bh B0 B2 Bg B4 B7 B8 Bb Be B3 owA fun hE Bh B0 B2 Bg B4 B7 B8 Bb Be B3 owA=>?_;have D2 := hb.size;refine ⟨_, rfl, pT (.bool true) ?_⟩;refine zn (cK [3,9,14,16,18,20,22,23,24,25,181] (fun L => ?_));refine zt ?_;refine zp (pD (.slice aoA moA coA) (sv b5 o5 C4 Ch) ?_);refine pT (iv k) ?_;refine pU (pw b5 (o5 + k * 7)) (xi (sv b5 o5 C4 Ch) (iv k) (ix23 (k := k) (by omega))) ?_;refine pU (.agg #[iv ((recN ((Rep.foldF (LL 0))) k).c : Int), iv ((recN ((Rep.foldF (LL 0))) k).n : Int), iv ((recN ((Rep.foldF (LL 0))) k).t : Int), iv ((recN ((Rep.foldF (LL 0))) k).o : Int), iv ((recN ((Rep.foldF (LL 0))) k).w : Int), iv ((recN ((Rep.foldF (LL 0))) k).k : Int), .string ((recN ((Rep.foldF (LL 0))) k).x)]) (xl (ld49 ((Fj.ext B3).c0 (i := k) (by omega)) ((Fj.ext B3).c1 (i := k) (by omega)) ((Fj.ext B3).c2 (i := k) (by omega)) ((Fj.ext B3).c3 (i := k) (by omega)) ((Fj.ext B3).c4 (i := k) (by omega)) ((Fj.ext B3).c5 (i := k) (by omega)) ((Fj.ext B3).c6 (i := k) (by omega)))) ?_;refine pS (sn_newS (us := #[iv ((recN ((Rep.foldF (LL 0))) k).c : Int), iv ((recN ((Rep.foldF (LL 0))) k).n : Int), iv ((recN ((Rep.foldF (LL 0))) k).t : Int), iv ((recN ((Rep.foldF (LL 0))) k).o : Int), iv ((recN ((Rep.foldF (LL 0))) k).w : Int), iv ((recN ((Rep.foldF (LL 0))) k).k : Int), .string ((recN ((Rep.foldF (LL 0))) k).x)]) (t := 49) (k := 1) (c := 1) (by kernel_rfl) ?_);intro G8 I1 Cz Hc hb hbx;have ⟨D6, De, Df, Dg, Dh, Di, Dj⟩ := bq7 hbx;refine mv12 hb hE Bh B0 B2 Bg B4 B7 B8 Bb Be B3 owA fun hE Bh B0 B2 Bg B4 B7 B8 Bb Be B3 owA=>?_;have F3 := hb.size;have Hy := D6.lt;have Gl := owA.base;obtain ⟨Ea, Dq, Hg, Eo, Dt, Bv, Cx⟩ := own_app1k (P := Tryz.prog) (ty := 23) recT (owA) (T C9 (T D2 F3)) (k := moA) holA (O := G8) (c := 1) (x := recN (Rep.foldF (LL 0)) k) (d := [iv ((recN ((Rep.foldF (LL 0))) k).c : Int), iv ((recN ((Rep.foldF (LL 0))) k).n : Int), iv ((recN ((Rep.foldF (LL 0))) k).t : Int), iv ((recN ((Rep.foldF (LL 0))) k).o : Int), iv ((recN ((Rep.foldF (LL 0))) k).w : Int), iv ((recN ((Rep.foldF (LL 0))) k).k : Int), .string ((recN ((Rep.foldF (LL 0))) k).x)]) (F := []) rfl (cells7 (D6.1) (De.1) (Df.1) (Dg.1) (Dh.1) (Di.1) (Dj.1)) (by simp [Value.oneCell']) (⟨rfl, rfl⟩) (fun b hb => by cases hb) (by omega) (by omega);refine pS (sn_eff (v := sv Ea 0 (moA + 1) Dq) (w' := Hg) (ex_append rfl (by kernel_rfl) (by kernel_rfl) Eo) ?_);replace hE := Bv.ext _ hE (by omega);replace Bh := Bv.ext _ Bh (by omega);replace B0 := Bv.ext _ B0 (by omega);replace B2 := Bv.ext _ B2 (by omega);replace Bg := Bv.ext _ Bg (by omega);replace B4 := Bv.ext _ B4 (T Bs (T Bo (T Bn (T Bk (T Bp Bq)))));replace B7 := Bv.ext _ B7 (T Bo (T Bn (T Bk (T Bp Bq))));replace B8 := Bv.ext _ B8 (T Bn (T Bk (T Bp Bq)));replace Bb := Bv.ext _ Bb (T Bk (T Bp Bq));replace Be := Bv.ext _ Be (T Bp Bq);replace B3 := Bv.ext _ B3 (Nat.le_refl _);have Fu := Bv.size;have Hn := Dt.base Ea rfl;have Hk := Dt.lt Ea rfl;have Fe := (own_capR Dt (by rw [List.length_append, holA]; rfl));refine pT (sv Ea 0 (moA + 1) Dq) ?_;refine pl_nil (qw_block (zq (cK [3,9,14,16,18,20,22,23,24,25] (fun L => ?_))));refine zp (pT (iv k) ?_);refine pU (iv ((k + 1 : Nat) : Int)) (ew (by omega) (by omega)) ?_;refine pT (iv ((k + 1 : Nat) : Int)) ?_;refine pl_nil (qw_round [3, 9, 14, 16, 18, 20, 22, 23, 24, 25] (ws' := [(3, .string tx), (9, .bool true), (14, .slice Dw Bj E0), (16, sv b4 o4 C3 C2), (18, sv b5 o5 C4 Ch), (20, .slice D8 Br Bw), (22, pw C1 0), (23, sv Ea 0 (moA + 1) Dq), (24, .slice none 0 0), (25, iv ((k + 1 : Nat) : Int))]) (by kernel_rfl) _ ?_ ⟨(k + 1), (some ⟨Ea, 0, none⟩), (moA + 1), Dq, rfl, rfl, (T C9 (T D2 (T F3 Fu))), hE, Bh, B0, B2, Bg, B4, B7, B8, Bb, Be, B3, (by rw [hms, if_pos (decide_eq_true hq)]; exact Dt), by omega, (by rw [hms, if_pos (decide_eq_true hq), List.length_append, holA]; rfl), Fe⟩);omega
    ·
     have hinA : (Rep.foldF (LL 0)).take k = (Rep.foldF (LL 0)) := List.take_of_length_le (by omega);refine zc (zc (zp (pD (iv k) (.slice E8 C4 Ch) ?_)));refine pT (iv C4) ?_;refine pU (.bool false) (en (((k : Nat) : Int) < ((C4 : Nat) : Int)) (by omega)) ?_;refine zn (zf ?_);refine cw_exit (qw_then_exit (qw_then_exit (qw_block_out (zq (cw_seq ?_)))));have hoA := owA;have hxA := holA;rw [hinA] at hoA hxA;have hmxA : moA ≤ 100 := by rw [← hxA];exact T (List.length_filter_le _ _) Gr
     have hRA := own_recs hoA hxA (by omega);have Ba := Ext.refl Ej;refine zp (pT (iv 0) ?_);refine zn (cK [3,9,16,20,22,23,24,26] (fun L => ?_));refine zc (zc (zp (pT (iv 0) ?_)));refine zn (cw_block ?_);have Gd := (E4.ext Bb);obtain ⟨b6, o6, Ih, Gj, Da⟩ := Gd.parts;have Ir := Gd.len;have Iw := Gd.max;refine cw_loop [3, 9, 16, 20, 22, 23, 24, 26, 27] (fun ws' wr m => ∃ j : Nat, ∃ aoB : Option Addr, ∃ moB coB hd : Nat, ws' = [(3, .string tx), (9, .bool true), (16, sv b4 o4 C3 C2), (20, .slice D8 Br Bw), (22, pw C1 0), (23, .slice aoA moA coA), (24, .slice aoB moB coB), (26, iv hd), (27, iv j)] ∧ m = Br - j ∧ Ej.heap.size ≤ wr.heap.size ∧ Ext w wr ∧ Ext w3 wr ∧ Ext El wr ∧ Ext Fd wr ∧ Ext G7 wr ∧ Ext Et wr ∧ Ext Eu wr ∧ Ext Ev wr ∧ Ext Ew wr ∧ Ext Ey wr ∧ Ext E2 wr ∧ Ext Ej wr ∧ OwnL recR Ej.heap.size 49 7 (.slice aoB moB coB) wr ((((Rep.foldF lc).take j).filter (fun x => decide (¬ x ∈ Fa)))) ∧ j ≤ Br ∧ (((Rep.foldF lc).take j).filter (fun x => decide (¬ x ∈ Fa))).length = moB ∧ moB ≤ coB ∧ hd = (((Rep.foldF lc).take j).filter (fun x => decide (x ∈ Fa))).length) (ws0 := [(3, .string tx), (9, .bool true), (16, sv b4 o4 C3 C2), (20, .slice D8 Br Bw), (22, pw C1 0), (23, .slice aoA moA coA), (24, .slice none 0 0), (26, iv 0), (27, iv 0)]) (by kernel_rfl) _ ⟨0, none, 0, 0, 0, rfl, rfl, Nat.le_refl _, hE, Bh, B0, B2, Bg, B4, B7, B8, Bb, Be, B3, Ba, OwnL.nil _ _ _ _ _, Nat.zero_le _, rfl, Nat.le_refl _, rfl⟩ ?_;clear hE Bh B0 B2 Bg B4 B7 B8 Bb Be B3 Ba;rintro J9 L ws Ez ⟨j, aoB, moB, coB, hd, rfl, rfl, Eh, hE, Bh, B0, B2, Bg, B4, B7, B8, Bb, Be, B3, Ba, owB, hkB, holB, hcapB, hhd⟩;have hbkB := owB.lt
     by_cases hlt : j < Br
     ·
      have Il := Gj (by omega);obtain rfl := Ih (by omega);have hms := Rep.filt_take (p := fun x => decide (¬ x ∈ Fa)) (l := (Rep.foldF lc)) (i := j) (by omega);have hmi := Rep.filt_le (p := fun x => decide (¬ x ∈ Fa)) (l := (Rep.foldF lc)) (i := j);refine zc (zc (zp (pD (iv j) (sv b6 o6 Br Bw) ?_)));refine pT (iv Br) ?_;refine pU (.bool true) (ed (((j : Nat) : Int) < ((Br : Nat) : Int)) (by omega)) ?_;refine zn (zt ?_);refine cw_skip (zq (zc (cw_block ?_)));refine cw_seq ?_
      by_cases hq : recN (Rep.foldF lc) j ∈ Fa
      ·
       refine zp (pD (sv b4 o4 C3 C2) (sv b6 o6 Br Bw) ?_);refine pD (iv j) (iv j) ?_;refine pU (iv ((j + 1 : Nat) : Int)) (ew (by omega) (by omega)) ?_;refine pU (sv b6 (o6 + j * 7) ((j + 1) - j) (Bw - j)) (ex_slice (p := sv b6 o6 Br Bw) rfl (by kernel_rfl) (by kernel_rfl) (by kernel_rfl) (by kernel_rfl) (sl23_110 (k := j) (m := j + 1) (by omega) (by omega) (by omega))) ?_;refine pS (sc 37 #[sv b4 o4 C3 C2, sv b6 (o6 + j * 7) ((j + 1) - j) (Bw - j)] ((keeps_r (r := true) _ _ _ ((Dx.ext B7)) (Ext.refl _) (RecsAt.oneAt (i := j) ((E4.ext Bb)) (by omega) (by omega)) (Ext.refl _) hC.ka (Rep.keeps_1 hq)).mono ?_));rintro e Jc ⟨rfl, hb⟩;refine mv12 hb hE Bh B0 B2 Bg B4 B7 B8 Bb Be B3 Ba fun hE Bh B0 B2 Bg B4 B7 B8 Bb Be B3 Ba=>?_;replace owB := owB.ext hb;have Fv := hb.size;refine ⟨_, rfl, pT (.bool false) ?_⟩;refine zn (cK [3,9,16,20,22,23,24,26,27,202] (fun L => ?_));refine zf ?_;refine zc (dE Tz74_2 (fun w' => w'.cell? ⟨b6, o6 + j * 7, none⟩ = some (iv ((recN ((Rep.foldF lc)) j).c : Int)) ∧ w'.cell? ⟨b6, o6 + j * 7 + 1, none⟩ = some (iv ((recN ((Rep.foldF lc)) j).n : Int)) ∧ w'.cell? ⟨b6, o6 + j * 7 + 2, none⟩ = some (iv ((recN ((Rep.foldF lc)) j).t : Int)) ∧ w'.cell? ⟨b6, o6 + j * 7 + 3, none⟩ = some (iv ((recN ((Rep.foldF lc)) j).o : Int)) ∧ w'.cell? ⟨b6, o6 + j * 7 + 4, none⟩ = some (iv ((recN ((Rep.foldF lc)) j).w : Int)) ∧ w'.cell? ⟨b6, o6 + j * 7 + 5, none⟩ = some (iv ((recN ((Rep.foldF lc)) j).k : Int)) ∧ w'.cell? ⟨b6, o6 + j * 7 + 6, none⟩ = some (.string ((recN ((Rep.foldF lc)) j).x)) ∧ w'.cell? ⟨C1, 0, none⟩ = some (iv ((recN Fa Bj).c : Int)) ∧ w'.cell? ⟨C1, 1, none⟩ = some (iv ((recN Fa Bj).n : Int)) ∧ w'.cell? ⟨C1, 2, none⟩ = some (iv ((recN Fa Bj).t : Int)) ∧ w'.cell? ⟨C1, 3, none⟩ = some (iv ((recN Fa Bj).o : Int)) ∧ w'.cell? ⟨C1, 4, none⟩ = some (iv ((recN Fa Bj).w : Int)) ∧ w'.cell? ⟨C1, 5, none⟩ = some (iv ((recN Fa Bj).k : Int)) ∧ w'.cell? ⟨C1, 6, none⟩ = some (.string ((recN Fa Bj).x))) (⟨(Da.ext Ba).c0 (i := j) (by omega), (Da.ext Ba).c1 (i := j) (by omega), (Da.ext Ba).c2 (i := j) (by omega), (Da.ext Ba).c3 (i := j) (by omega), (Da.ext Ba).c4 (i := j) (by omega), (Da.ext Ba).c5 (i := j) (by omega), (Da.ext Ba).c6 (i := j) (by omega), (Bx.x B3).1, (Cc.x B3).1, (Cd.x B3).1, (C5.x B3).1, (C6.x B3).1, (C7.x B3).1, (C8.x B3).1⟩) (fun ops Q I2 hb hL hR hK => ?_));refine mv12 hb hE Bh B0 B2 Bg B4 B7 B8 Bb Be B3 Ba fun hE Bh B0 B2 Bg B4 B7 B8 Bb Be B3 Ba=>?_;replace owB := owB.ext hb;have Fw := hb.size;have hS := A14 ((Da.ext Ba).c0 (i := j) (by omega)) ((Da.ext Ba).c1 (i := j) (by omega)) ((Da.ext Ba).c2 (i := j) (by omega)) ((Da.ext Ba).c3 (i := j) (by omega)) ((Da.ext Ba).c4 (i := j) (by omega)) ((Da.ext Ba).c5 (i := j) (by omega)) ((Da.ext Ba).c6 (i := j) (by omega)) (Bx.c B3) (Cc.c B3) (Cd.c B3) (C5.c B3) (C6.c B3) (C7.c B3) (C8.c B3);refine wW 0 (sv b6 o6 Br Bw) 1 (iv j) hR hS ?_;refine wL 2 (pw b6 (o6 + j * 7)) hR (fun w _ => ex_index (p := sv b6 o6 Br Bw) (i := iv j) rfl (by kernel_rfl) (by kernel_rfl) (ix23 (k := j) (by omega))) hS ?_;refine wM 3 (.agg #[iv ((recN ((Rep.foldF lc)) j).c : Int), iv ((recN ((Rep.foldF lc)) j).n : Int), iv ((recN ((Rep.foldF lc)) j).t : Int), iv ((recN ((Rep.foldF lc)) j).o : Int), iv ((recN ((Rep.foldF lc)) j).w : Int), iv ((recN ((Rep.foldF lc)) j).k : Int), .string ((recN ((Rep.foldF lc)) j).x)]) hR (fun w hS => ld49 (hS.1) (hS.2.1) (hS.2.2.1) (hS.2.2.2.1) (hS.2.2.2.2.1) (hS.2.2.2.2.2.1) (hS.2.2.2.2.2.2.1)) hS ?_;refine wM 4 (.agg #[iv ((recN Fa Bj).c : Int), iv ((recN Fa Bj).n : Int), iv ((recN Fa Bj).t : Int), iv ((recN Fa Bj).o : Int), iv ((recN Fa Bj).w : Int), iv ((recN Fa Bj).k : Int), .string ((recN Fa Bj).x)]) hR (fun w hS => ld49 (hS.2.2.2.2.2.2.2.1) (hS.2.2.2.2.2.2.2.2.1) (hS.2.2.2.2.2.2.2.2.2.1) (hS.2.2.2.2.2.2.2.2.2.2.1) (hS.2.2.2.2.2.2.2.2.2.2.2.1) (hS.2.2.2.2.2.2.2.2.2.2.2.2.1) (hS.2.2.2.2.2.2.2.2.2.2.2.2.2)) hS ?_;refine wL 5 (.bool true) hR (fun w _ => ex_binV (a := .agg #[iv ((recN ((Rep.foldF lc)) j).c : Int), iv ((recN ((Rep.foldF lc)) j).n : Int), iv ((recN ((Rep.foldF lc)) j).t : Int), iv ((recN ((Rep.foldF lc)) j).o : Int), iv ((recN ((Rep.foldF lc)) j).w : Int), iv ((recN ((Rep.foldF lc)) j).k : Int), .string ((recN ((Rep.foldF lc)) j).x)]) (b := .agg #[iv ((recN Fa Bj).c : Int), iv ((recN Fa Bj).n : Int), iv ((recN Fa Bj).t : Int), iv ((recN Fa Bj).o : Int), iv ((recN Fa Bj).w : Int), iv ((recN Fa Bj).k : Int), .string ((recN Fa Bj).x)]) rfl (by kernel_rfl) (by kernel_rfl) (eqG_agg (by kernel_rfl)) (bin_eqv_t (rec_eq _ ((recN ((Rep.foldF lc)) j)) ((recN Fa Bj))) ((hC.only _ (recN_mem (by omega)) hq).trans hlast.symm))) hS ?_;refine we hL hR hK ?_;refine zq (cK [3,9,16,20,22,23,24,26,27,215] (fun L => ?_));refine zt ?_;have hdl := Rep.filt_le (p := fun x => decide (x ∈ Fa)) (l := (Rep.foldF lc)) (i := j);refine zp (pT (iv hd) ?_);refine pU (iv ((hd + 1 : Nat) : Int)) (ew (by omega) (by omega)) ?_;refine pT (iv ((hd + 1 : Nat) : Int)) ?_;refine pl_nil (qw_block (zq (zp (pT (iv j) ?_))));refine pU (iv ((j + 1 : Nat) : Int)) (ew (by omega) (by omega)) ?_;refine pT (iv ((j + 1 : Nat) : Int)) ?_;refine pl_nil (qw_round [3, 9, 16, 20, 22, 23, 24, 26, 27] (ws' := [(3, .string tx), (9, .bool true), (16, sv b4 o4 C3 C2), (20, sv b6 o6 Br Bw), (22, pw C1 0), (23, .slice aoA moA coA), (24, .slice aoB moB coB), (26, iv ((hd + 1 : Nat) : Int)), (27, iv ((j + 1 : Nat) : Int))]) (by kernel_rfl) _ ?_ ⟨(j + 1), aoB, moB, coB, (hd + 1), rfl, rfl, (T Eh (T Fv Fw)), hE, Bh, B0, B2, Bg, B4, B7, B8, Bb, Be, B3, Ba, (by rw [hms, if_neg (by simp [hq]), List.append_nil]; exact owB), by omega, (by rw [hms, if_neg (by simp [hq]), List.append_nil]; exact holB), hcapB, (by rw [Rep.filt_take (by omega), if_pos (decide_eq_true hq), List.length_append, ← hhd]; rfl)⟩)
       omega
      ·
       refine zp (pD (sv b4 o4 C3 C2) (sv b6 o6 Br Bw) ?_);refine pD (iv j) (iv j) ?_;refine pU (iv ((j + 1 : Nat) : Int)) (ew (by omega) (by omega)) ?_;refine pU (sv b6 (o6 + j * 7) ((j + 1) - j) (Bw - j)) (ex_slice (p := sv b6 o6 Br Bw) rfl (by kernel_rfl) (by kernel_rfl) (by kernel_rfl) (by kernel_rfl) (sl23_110 (k := j) (m := j + 1) (by omega) (by omega) (by omega))) ?_;refine pS (sc 37 #[sv b4 o4 C3 C2, sv b6 (o6 + j * 7) ((j + 1) - j) (Bw - j)] ((keeps_r (r := false) _ _ _ ((Dx.ext B7)) (Ext.refl _) (RecsAt.oneAt (i := j) ((E4.ext Bb)) (by omega) (by omega)) (Ext.refl _) hC.ka (Rep.keeps_0 hq)).mono ?_));rintro e Jd ⟨rfl, hb⟩;refine mv12 hb hE Bh B0 B2 Bg B4 B7 B8 Bb Be B3 Ba fun hE Bh B0 B2 Bg B4 B7 B8 Bb Be B3 Ba=>?_;replace owB := owB.ext hb;have D3 := hb.size;refine ⟨_, rfl, pT (.bool true) ?_⟩;refine zn (cK [3,9,16,20,22,23,24,26,27,202] (fun L => ?_));refine zt ?_;refine zp (pD (.slice aoB moB coB) (sv b6 o6 Br Bw) ?_);refine pT (iv j) ?_;refine pU (pw b6 (o6 + j * 7)) (xi (sv b6 o6 Br Bw) (iv j) (ix23 (k := j) (by omega))) ?_;refine pU (.agg #[iv ((recN ((Rep.foldF lc)) j).c : Int), iv ((recN ((Rep.foldF lc)) j).n : Int), iv ((recN ((Rep.foldF lc)) j).t : Int), iv ((recN ((Rep.foldF lc)) j).o : Int), iv ((recN ((Rep.foldF lc)) j).w : Int), iv ((recN ((Rep.foldF lc)) j).k : Int), .string ((recN ((Rep.foldF lc)) j).x)]) (xl (ld49 ((Da.ext Ba).c0 (i := j) (by omega)) ((Da.ext Ba).c1 (i := j) (by omega)) ((Da.ext Ba).c2 (i := j) (by omega)) ((Da.ext Ba).c3 (i := j) (by omega)) ((Da.ext Ba).c4 (i := j) (by omega)) ((Da.ext Ba).c5 (i := j) (by omega)) ((Da.ext Ba).c6 (i := j) (by omega)))) ?_;refine pS (sn_newS (us := #[iv ((recN ((Rep.foldF lc)) j).c : Int), iv ((recN ((Rep.foldF lc)) j).n : Int), iv ((recN ((Rep.foldF lc)) j).t : Int), iv ((recN ((Rep.foldF lc)) j).o : Int), iv ((recN ((Rep.foldF lc)) j).w : Int), iv ((recN ((Rep.foldF lc)) j).k : Int), .string ((recN ((Rep.foldF lc)) j).x)]) (t := 49) (k := 1) (c := 1) (by kernel_rfl) ?_);intro G9 I3 D0 Hd hb hbx;have ⟨D7, Dk, Dl, Dm, Dn, Do, Dp⟩ := bq7 hbx;refine mv12 hb hE Bh B0 B2 Bg B4 B7 B8 Bb Be B3 Ba fun hE Bh B0 B2 Bg B4 B7 B8 Bb Be B3 Ba=>?_;replace owB := owB.ext hb;have F4 := hb.size;have Hz := D7.lt;have Gm := owB.base;obtain ⟨Eb, Dr, Hh, Ep, Du, Bu, Cy⟩ := own_app1k (P := Tryz.prog) (ty := 23) recT (owB) (T Eh (T D3 F4)) (k := moB) holB (O := G9) (c := 1) (x := recN (Rep.foldF lc) j) (d := [iv ((recN ((Rep.foldF lc)) j).c : Int), iv ((recN ((Rep.foldF lc)) j).n : Int), iv ((recN ((Rep.foldF lc)) j).t : Int), iv ((recN ((Rep.foldF lc)) j).o : Int), iv ((recN ((Rep.foldF lc)) j).w : Int), iv ((recN ((Rep.foldF lc)) j).k : Int), .string ((recN ((Rep.foldF lc)) j).x)]) (F := []) rfl (cells7 (D7.1) (Dk.1) (Dl.1) (Dm.1) (Dn.1) (Do.1) (Dp.1)) (by simp [Value.oneCell']) (⟨rfl, rfl⟩) (fun b hb => by cases hb) (by omega) (by omega);refine pS (sn_eff (v := sv Eb 0 (moB + 1) Dr) (w' := Hh) (ex_append rfl (by kernel_rfl) (by kernel_rfl) Ep) ?_);replace hE := Bu.ext _ hE (by omega);replace Bh := Bu.ext _ Bh (by omega);replace B0 := Bu.ext _ B0 (by omega);replace B2 := Bu.ext _ B2 (by omega);replace Bg := Bu.ext _ Bg (by omega);replace B4 := Bu.ext _ B4 (by omega);replace B7 := Bu.ext _ B7 (T Bo (T Bn (T Bk (T Bp (T Bq C9)))));replace B8 := Bu.ext _ B8 (T Bn (T Bk (T Bp (T Bq C9))));replace Bb := Bu.ext _ Bb (T Bk (T Bp (T Bq C9)));replace Be := Bu.ext _ Be (T Bp (T Bq C9));replace B3 := Bu.ext _ B3 C9;replace Ba := Bu.ext _ Ba (Nat.le_refl _);have Fx := Bu.size;have Ho := Du.base Eb rfl;have Hl := Du.lt Eb rfl;have Ff := (own_capR Du (by rw [List.length_append, holB]; rfl));refine pT (sv Eb 0 (moB + 1) Dr) ?_;refine pl_nil (qw_block (zq (cK [3,9,16,20,22,23,24,26,27] (fun L => ?_))));refine zp (pT (iv j) ?_);refine pU (iv ((j + 1 : Nat) : Int)) (ew (by omega) (by omega)) ?_;refine pT (iv ((j + 1 : Nat) : Int)) ?_;refine pl_nil (qw_round [3, 9, 16, 20, 22, 23, 24, 26, 27] (ws' := [(3, .string tx), (9, .bool true), (16, sv b4 o4 C3 C2), (20, sv b6 o6 Br Bw), (22, pw C1 0), (23, .slice aoA moA coA), (24, sv Eb 0 (moB + 1) Dr), (26, iv hd), (27, iv ((j + 1 : Nat) : Int))]) (by kernel_rfl) _ ?_ ⟨(j + 1), (some ⟨Eb, 0, none⟩), (moB + 1), Dr, hd, rfl, rfl, (T Eh (T D3 (T F4 Fx))), hE, Bh, B0, B2, Bg, B4, B7, B8, Bb, Be, B3, Ba, (by rw [hms, if_pos (decide_eq_true hq)]; exact Du), by omega, (by rw [hms, if_pos (decide_eq_true hq), List.length_append, holB]; rfl), Ff, (by rw [Rep.filt_take (by omega), if_neg (by simp [hq]), List.append_nil]; exact hhd)⟩);omega
     ·
      have hinB : (Rep.foldF lc).take j = (Rep.foldF lc) := List.take_of_length_le (by omega);refine zc (zc (zp (pD (iv j) (.slice D8 Br Bw) ?_)));refine pT (iv Br) ?_;refine pU (.bool false) (en (((j : Nat) : Int) < ((Br : Nat) : Int)) (by omega)) ?_;refine zn (zf ?_);refine cw_exit (qw_then_exit (qw_then_exit (qw_block_out (zq (cw_seq ?_)))));rw [hinB] at hhd;have hheld := hC.held
      by_cases hte : tx = ⟨#[]⟩
      ·
       rw [if_pos (show tx = Rep.empty from hte)] at hheld;have hoB := owB;have hxB := holB;rw [hinB] at hoB hxB;have hmxB : moB ≤ 100 := by rw [← hxB];exact T (List.length_filter_le _ _) Fs
       have hRB := own_recs hoB hxB (by omega);have F0 := Ext.refl Ez;refine zp (pD (.bool true) (.bool true) ?_);refine pD (.slice aoA moA coA) (.slice aoB moB coB) ?_;refine pS (sc 15 #[.slice aoA moA coA, .slice aoB moB coB] ((SameRecords_r _ _ _ ((hRA.ext Ba)) (Ext.refl _) (hRB) (Ext.refl _) (decide_eq_true hC.same)).mono ?_));rintro e Je ⟨rfl, hb⟩;refine mv2 hb hE Ba fun hE Ba=>?_;have Hq := hb.size;refine ⟨_, rfl, pD (.bool true) (.bool true) ?_⟩;refine pT (iv hd) ?_;refine pU (.bool false) (eN ((hd : Nat) : Int) (1 : Int) (by omega)) ?_;refine pT (.string tx) ?_;refine pU (.bool false) (ex_binV (a := .string tx) (b := .string (⟨#[]⟩)) rfl (by kernel_rfl) (by kernel_rfl) eqG_str (bin_nqs_t hte)) ?_;refine pD (.bool true) (.bool true) ?_;refine pT (.bool true) ?_;refine zn (cK [8] (fun L => ?_));refine cw_ret (qw_ret [.bool true] rfl ⟨(by kernel_rfl), trivial⟩ ?_);exact ⟨rfl, hE⟩
      ·
       rw [if_neg (show ¬ tx = Rep.empty from hte)] at hheld;have hoB := owB;have hxB := holB;rw [hinB] at hoB hxB;have hmxB : moB ≤ 100 := by rw [← hxB];exact T (List.length_filter_le _ _) Fs
       have hRB := own_recs hoB hxB (by omega);have F1 := Ext.refl Ez;refine zp (pD (.bool true) (.bool true) ?_);refine pD (.slice aoA moA coA) (.slice aoB moB coB) ?_;refine pS (sc 15 #[.slice aoA moA coA, .slice aoB moB coB] ((SameRecords_r _ _ _ ((hRA.ext Ba)) (Ext.refl _) (hRB) (Ext.refl _) (decide_eq_true hC.same)).mono ?_));rintro e Jf ⟨rfl, hb⟩;replace hE := hE.trans hb;have Hr := hb.size;refine ⟨_, rfl, pD (.bool true) (.bool true) ?_⟩;refine pT (iv hd) ?_;refine pU (.bool true) (eE ((hd : Nat) : Int) (1 : Int) (by omega)) ?_;refine pT (.string tx) ?_;refine pU (.bool true) (ex_binV (a := .string tx) (b := .string (⟨#[]⟩)) rfl (by kernel_rfl) (by kernel_rfl) eqG_str (bin_nqs_f hte)) ?_;refine pD (.bool true) (.bool true) ?_;refine pT (.bool true) ?_;refine zn (cK [8] (fun L => ?_));refine cw_ret (qw_ret [.bool true] rfl ⟨(by kernel_rfl), trivial⟩ ?_);exact ⟨rfl, hE⟩
end Go.Proofs.YtfmoabgjaclkpaaGreatDoor

namespace Go.Proofs.YtfmoabgjaclkpaaGreatDoor
open Go.ChangeShapes Go.WideShapes Go.ChangeAt Go.RowKit
set_option maxRecDepth 100000 in
theorem ReplicaCorrected_lifted (os : Os) (started : os.Started) (H : Type) (enc : TypeId × Value → H) :
  ReturnsInHanded {} Tryz.checked os 6 .any (fun w args => (Rows.replicaCorrectedSpec.pre enc Tryz.prog Tryz.f6 [] false w args ∧ laidMetH Tryz.prog laidTabs w) ∧ sizedMet enc Tryz.prog Tryz.f6 (OpenSpec.ofChange Rows.replicaCorrectedSpec) false w args)
   (Rows.replicaCorrectedSpec.post enc Tryz.prog Tryz.f6 false true false false) := by
 refine returnsInHanded_of_change_and (C := Tryz.checked) (X := fun w _ => laidMetH Tryz.prog laidTabs w) (fun _ _ _ hh h => h.of_heap hh) own started (by kernel_rfl) Tryz.func6
  (ChangeSpec.witness_shaped (enc := enc) (C := Tryz.checked) (os := os) (X := fun w _ => laidMetH Tryz.prog laidTabs w) false (World.doorLaid Tryz.prog 19 os) #[.slice none 0 0, .int .i64 0, .int .i64 0, .string ⟨#[]⟩] 8 rfl (World.shaped_of_RefB (by kernel_rfl) (by kernel_rfl)) (by kernel_rfl) (by kernel_rfl) (by kernel_rfl) (door_met os _)) ?_
 intro W base args ds gs before hval0 hW _ hsz hL _
 have hval : ∀ (j : Nat) t v, Tryz.f6.params[j]? = some t → args[j]? = some v → Value.okWide Tryz.prog W .any base t v := hval0
 have hW' := hW
 obtain ⟨p, q, hA0, hV, rfl, hfz, hnd⟩ := hW
 have hA : DataW.TrodAll enc Tryz.prog W 0 (fun _ => true) true Tryz.f6.params.toList args.toList ds p := hA0
 rw [Tryz.params6] at hA hval
 obtain ⟨v0, vs0, d0, ds0, p0, q0, hargs, rfl, rfl, h0, r0⟩ := trodAll_cons hA
 obtain ⟨v1, vs1, d1, ds1, p1, q1, rfl, rfl, rfl, h1, r1⟩ := trodAll_cons r0
 obtain ⟨v2, vs2, d2, ds2, p2, q2, rfl, rfl, rfl, h2, r2⟩ := trodAll_cons r1
 obtain ⟨v3, vs3, d3, ds3, p3, q3, rfl, rfl, rfl, h3, r3⟩ := trodAll_cons r2
 obtain ⟨rfl, rfl, rfl⟩ := trodAll_nil r3
 obtain rfl : args = #[v0, v1, v2, v3] := by cases args; simp_all
 obtain ⟨rfl, rfl⟩ := trodVars_none hV
 have k0 := h0
 have lt0 : ∀ x ∈ p0, x.block < W.heap.size := by obtain ⟨m, hm⟩ := k0; exact DataW.trod_lt m _ _ _ hm
 have op0 := open_quads (hval 0 _ v0 rfl rfl) h0
 obtain ⟨a1, rfl, rfl, rfl, w1⟩ := open_int Tryz.underlying3 (hval 1 3 v1 rfl rfl) h1
 obtain ⟨a2, rfl, rfl, rfl, w2⟩ := open_int Tryz.underlying3 (hval 2 3 v2 rfl rfl) h2
 have k3 := h3
 have lt3 : ∀ x ∈ p3, x.block < W.heap.size := by obtain ⟨m, hm⟩ := k3; exact DataW.trod_lt m _ _ _ hm
 have op3 := open_text (hval 3 _ v3 rfl rfl) h3
 clear hA0 hval0
 refine (ReplicaCorrected_walk W v0 op0 a1 (isI_of_wf w1) a2 (isI_of_wf w2) v3 op3 (tab_of_laid hL)).mono fun e W' ⟨he, hE⟩ => ?_
 subst he
 have bel : Below W.heap.size W W' := hE
 exact ⟨_, rfl, _, _, _, [], _, [], hW', trodAll_mk1 (shut_bool Tryz.underlying4 _), (trodAll_cons_mk (Below.trod laidOut (by kernel_rfl) (of_decide_eq_true (by kernel_rfl)) k0 bel lt0) (trodAll_cons_mk (shut_int Tryz.underlying3 w1) (trodAll_cons_mk (shut_int Tryz.underlying3 w2) (trodAll_cons_mk (Below.trod laidOut (by kernel_rfl) (of_decide_eq_true (by kernel_rfl)) k3 bel lt3) trodAll_mk0)))), rfl, bel.frame _, fun h => by cases h⟩
theorem ReplicaCorrected_over : Rows.ReplicaCorrectedSaid :=
 OpenClaim.holds_of_wide 6 Tryz.f6 rfl rfl rfl rfl rfl rfl rfl ⟨rfl, rfl, rfl, rfl, rfl⟩ rfl rfl rfl rfl rfl (by kernel_rfl) Tryz.func6 (by kernel_rfl)
  (of_decide_eq_true (by kernel_rfl)) (by unfold Func.isWrapper; first | (rw [if_pos (by decide +kernel)]; kernel_rfl) | (rw [if_neg (by decide +kernel)]; exact ⟨rfl, rfl⟩))
  (fun os started H enc _ => ReplicaCorrected_lifted os started H enc)
theorem ReplicaCorrected_holds : Rows.ReplicaCorrectedCardSaid :=
 Claim7.holds_tied_plain_at .later [] [.data] true (true, "f9bd7bf2428558407907bdf4a3d03e3e627b39690f181bd9906d008ddbe31a7e") false
  ReplicaCorrected_over (fun _ h => by cases h) (by kernel_rfl) (fun _ h => by cases h) replicaCorrected_row_tie rfl ⟨rfl, rfl⟩ (by kernel_rfl) rfl
  (fun f fn hf hfn => by
   obtain rfl : f = 6 := Option.some.inj ((show Tryz.prog.funcNamed "nadir/nadirlaw35.ReplicaCorrected" = some 6 by kernel_rfl).symm.trans hf) |>.symm
   obtain rfl : fn = Tryz.f6 := (Option.some.inj (Tryz.func6.symm.trans hfn)).symm
   exact ⟨by kernel_rfl, fun j t ht => by
    rw [Tryz.params6] at ht
    have hm : t ∈ [22, 3, 3, 9] := by simpa using Array.mem_of_getElem? ht
    have hall : ([22, 3, 3, 9].all fun u => !Tryz.prog.wantsStandIn u) = true := by kernel_rfl
    exact (show Tryz.prog.wantsStandIn t = false by simpa using List.all_eq_true.1 hall t hm)⟩)
  (by kernel_rfl)
#print axioms ReplicaCorrected_holds
end Go.Proofs.YtfmoabgjaclkpaaGreatDoor
