/- The statement ReplicaMatchesReference: for every input that the row lists, the law returns true, and every argument reads as it read before. -/
import Derived.Test.YtfmoabgjaclkpaaGreatDoorV6ReplicaMatchesReference
import Derived.Test.YtfmoabgjaclkpaaGreatDoorTie
import Derived.Test.YtfmoabgjaclkpaaGreatDoorCards
import Derived.ProofKit
import Derived.OpenShut
import Derived.ChangeOld
import Derived.LaidMore
import Derived.Stop.Joined
import Derived.Stop.LaidErr
import Derived.Lib.LaidTab
import Derived.SevenTiedAt
import Derived.Deep.Slices
import Derived.ChangeMaps5
namespace Go.Proofs.YtfmoabgjaclkpaaGreatDoor
set_option maxRecDepth 1000000
set_option maxHeartbeats 4000000
set_option synthInstance.maxHeartbeats 0
set_option synthInstance.maxSize 9999
open Go.RowKit
def Tz61_0 : List Row := [(some 17, [0], []), (some 18, [5], []), (some 19, [17, 18], [0, 1]), (some 20, [19], [2]), (some 21, [20], [3]), (some 22, [1], []), (some 23, [5], []), (some 24, [22, 23], [5, 6]), (some 25, [24], [7]), (some 26, [21, 25], [4, 8])]
structure TxtB (w : World) (B n : Nat) (l : List Rec) : Prop where
 at_ : ∀ i, i < n → w.cell? ⟨B, i, none⟩ = some (.string (recN l i).x)
theorem TxtB.ext {w w' : World} {B n : Nat} {l : List Rec} (h : TxtB w B n l) (e : Ext w w') : TxtB w' B n l := ⟨fun i hi => e.cell (h.at_ i hi)⟩
namespace Rep
def keepsB (l1 l2 : List Rec) : Bool := decide (∀ x ∈ l2, x ∈ l1)
theorem keeps_t {l1 l2 : List Rec} (h : ∀ x ∈ l2, x ∈ l1) : keepsB l1 l2 = true := decide_eq_true h
end Rep
theorem texts_y {w0 : World} {a : Option Addr} {n B : Nat} {l : List Rec} (k c : Nat) (w : World) (H : RecsAt w0 a n l) (e0 : Ext w0 w) (hs : TxtB w B n l) : Calls Tryz.prog 41 #[.slice a n k, sv B 0 n c] w fun e w' => e = .returned (.bool true) ∧ Ext w w' := by
 replace H := H.ext e0;clear e0;obtain ⟨b, o, ha, hbr, hx⟩ := H.parts;have hln := H.len;have hmx := H.max;refine calls_cw 27 [(1, sv B 0 n c), (0, .slice a n k)] Tryz.func41 rfl Tryz.ntmps41 (by kernel_rfl) (by kernel_rfl) (fun L => ?_);have hE := Ext.refl w;refine zc (zp (pT (.bool false) ?_));refine zn (zc (zc (zp (pD (.slice a n k) (iv n) ?_))));refine pD (sv B 0 n c) (iv n) ?_;refine pU (.bool false) (ev_nne (show _ = Result.ok (Next.value (Value.bool (((n : Nat) : Int) != ((n : Nat) : Int)))) _ from by kernel_rfl) (by omega)) ?_;refine zn (zf ?_);refine cw_skip (zq (zc (zc (zp (pT (iv 0) ?_)))));refine zn (cw_block ?_);refine cw_loop [0, 1, 5] (fun ws' wr m => ∃ i : Nat, ws' = [(0, .slice a n k), (1, sv B 0 n c), (5, iv i)] ∧ m = n - i ∧ w.heap.size ≤ wr.heap.size ∧ Ext w wr ∧ i ≤ n) (ws0 := [(0, .slice a n k), (1, sv B 0 n c), (5, iv 0)]) (by kernel_rfl) _ ⟨0, rfl, rfl, Nat.le_refl _, hE, Nat.zero_le _⟩ ?_;clear hE;rintro m3 L ws w2 ⟨i, rfl, rfl, B0, hE, hi⟩
 by_cases hlt : i < n
 ·
  obtain rfl := ha (by omega);have hbl := hbr (by omega);refine zc (zc (zp (pD (iv i) (sv b o n k) ?_)));refine pT (iv n) ?_;refine pU (.bool true) (ed (((i : Nat) : Int) < ((n : Nat) : Int)) (by omega)) ?_;refine zn (zt ?_);refine cw_skip (zq (zc (cw_block ?_)));refine zc (dE Tz61_0 (fun w' => w'.cell? ⟨b, o + i * 7 + 6, none⟩ = some (.string ((recN l i).x)) ∧ w'.cell? ⟨B, i, none⟩ = some (.string ((recN l i).x))) (⟨(hx.ext hE).c6 (i := i) (by omega), (hs.ext hE).at_ i (by omega)⟩) (fun ops Q X4 hb hL hR hK => ?_));replace hE := hE.trans hb;have B2 := hb.size;have hS := A2 ((hx.ext hE).c6 (i := i) (by omega)) ((hs.ext hE).at_ i (by omega));refine wW 0 (sv b o n k) 1 (iv i) hR hS ?_;refine wL 2 (pw b (o + i * 7)) hR (fun w _ => ex_index (p := sv b o n k) (i := iv i) rfl (by kernel_rfl) (by kernel_rfl) (ix23 (k := i) (by omega))) hS ?_;refine wV 3 (pw b (o + i * 7 + 6)) hR hS ?_;refine wM 4 (.string ((recN l i).x)) hR (fun w hS => ld9 (hS.1)) hS ?_;refine wW 5 (sv B 0 n c) 6 (iv i) hR hS ?_;refine wL 7 (pw B i) hR (fun w _ => ex_index (p := sv B 0 n c) (i := iv i) rfl (by kernel_rfl) (by kernel_rfl) (ix62z (k := i) (by omega))) hS ?_;refine wM 8 (.string ((recN l i).x)) hR (fun w hS => ld9 (hS.2)) hS ?_;refine wL 9 (.bool false) hR (fun w _ => ex_binV (a := .string ((recN l i).x)) (b := .string ((recN l i).x)) rfl (by kernel_rfl) (by kernel_rfl) eqG_str (bin_nqs_t rfl)) hS ?_;refine we hL hR hK ?_;refine zq (cK [0,1,5,26] (fun L => ?_));refine zf ?_;refine cw_skip (qw_block (zq (zp (pT (iv i) ?_))));refine pU (iv ((i + 1 : Nat) : Int)) (ew (by omega) (by omega)) ?_;refine pT (iv ((i + 1 : Nat) : Int)) ?_;refine pl_nil (zr [0, 1, 5] _ ?_ ⟨(i + 1), rfl, rfl, (T B0 B2), hE, by omega⟩);omega
 ·
  refine zc (zc (zp (pD (iv i) (.slice a n k) ?_)));refine pT (iv n) ?_;refine pU (.bool false) (en (((i : Nat) : Int) < ((n : Nat) : Int)) (by omega)) ?_;refine zn (zf ?_);refine cw_exit (qw_then_exit (qw_then_exit (qw_block_out (zq (zc (zp (pT (.bool true) ?_)))))));refine zn (cw_ret (qw_ret [.bool true] rfl ⟨(by kernel_rfl), trivial⟩ ?_));exact ⟨rfl, hE⟩
instance {w w' : World} {B n : Nat} {l : List Rec} : MvC w w' (TxtB w B n l) (TxtB w' B n l) := ⟨fun e h => h.ext e⟩
end Go.Proofs.YtfmoabgjaclkpaaGreatDoor

namespace Go.Proofs.YtfmoabgjaclkpaaGreatDoor
set_option maxRecDepth 1000000
set_option maxHeartbeats 4000000
set_option synthInstance.maxHeartbeats 0
set_option synthInstance.maxSize 9999
open Go.RowKit
def Tz62_0 : List Row := [(some 187, [29], []), (some 188, [187], [0]), (some 189, [26, 188], [1]), (some 190, [189, 188], [2, 1]), (some 191, [188, 190], [1, 3]), (some 192, [191], [4, 1]), (some 193, [28, 192], [5]), (some 194, [193, 192], [6, 5]), (some 195, [192, 194], [5, 7]), (some 196, [195], [8, 5]), (some 197, [27, 196], [9]), (some 198, [13, 196], [9]), (some 199, [198, 196], [11, 9]), (some 200, [199, 196], [12, 9]), (some 201, [197, 200, 196], [10, 13, 9]), (some 202, [196, 201], [9, 14]), (some 203, [202], [15, 9]), (some 204, [13, 203], [16]), (some 205, [204, 203], [17, 16]), (some 206, [205, 203], [18, 16]), (some 207, [203], [16]), (some 208, [206, 207, 203], [19, 20, 16]), (some 209, [203, 208], [16, 21]), (some 210, [209], [22, 16]), (some 211, [15, 210], [23]), (some 212, [211, 210], [24, 23, 23]), (some 213, [210, 212], [23, 25]), (some 214, [213], [26, 25]), (some 215, [214], [27]), (some 216, [215, 214], [28, 27, 27]), (some 217, [216, 214], [29, 27]), (some 218, [214, 217], [27, 30]), (some 219, [218], [31, 29]), (some 220, [15, 219], [32]), (some 221, [15, 219], [32]), (some 222, [220, 221, 219], [33, 34, 32, 32]), (some 223, [219, 222], [32, 35]), (some 224, [223], [36, 35]), (some 225, [15, 224], [37]), (some 226, [1, 224], [37]), (some 227, [225, 226, 224], [38, 39, 37, 37]), (some 228, [227, 224], [40, 37]), (some 229, [224, 228], [37, 41]), (some 0, [229], [42, 40, 0, 1, 2, 3, 4, 5, 6, 7, 8, 9, 10, 11, 12, 13, 14, 15, 16, 17, 18, 19, 20, 21, 22, 23, 24, 25, 26, 27, 28, 29, 30, 31, 32, 33, 34, 35, 36, 37, 38, 39, 40, 41, 42])]
namespace San
def rA : Rec := ⟨2, 1, 100, -1, 0, 1, ⟨#[119, 104, 111, 108, 101]⟩⟩
def rB : Rec := ⟨5, 1, 200, 2, 1, 1, ⟨#[99, 114, 97, 99, 107, 101, 100]⟩⟩
def rC : Rec := ⟨2, 2, 150, 2, 1, 1, ⟨#[115, 116, 97, 105, 110, 101, 100]⟩⟩
def l1 : List Rec := [rA]
def l2 : List Rec := [rA, rB]
def l3 : List Rec := [rA, rC]
def l4 : List Rec := [rA, rC, rB]
def lB : List Rec := [rB]
def lC : List Rec := [rC]
theorem h1 : Rep.addF 2 [] ⟨0, 0, 100, -1, 0, 1, ⟨#[119, 104, 111, 108, 101]⟩⟩ = some l1 := by kernel_rfl
theorem h2 : Rep.mergeF 5 [] 2 l1 = some l1 := by kernel_rfl
theorem h3 : Rep.corrF 5 l1 ⟨0, 0, 200, 2, 1, 1, ⟨#[99, 114, 97, 99, 107, 101, 100]⟩⟩ = some l2 := by kernel_rfl
theorem h4 : Rep.corrF 2 l1 ⟨0, 0, 150, 2, 1, 1, ⟨#[115, 116, 97, 105, 110, 101, 100]⟩⟩ = some l3 := by kernel_rfl
theorem h5 : Rep.foldO 2 l3 = some lC := by kernel_rfl
theorem h6 : Rep.foldO 5 l2 = some lB := by kernel_rfl
theorem h7 : Rep.behindF 2 l3 5 l2 = some lB := by kernel_rfl
theorem h8 : Rep.mergeF 2 l3 5 l2 = some l4 := by kernel_rfl
theorem h9 : Rep.foldO 2 l4 = some lB := by kernel_rfl
theorem h10 : Rep.histO 2 l4 (2, 1) = some l4 := by kernel_rfl
theorem h11 : Rep.histO 2 l4 (3, 1) = none := by kernel_rfl
theorem h12 : Rep.okR (recN lB 0) = true := by kernel_rfl
theorem h13 : Rep.decR (Rep.encR (recN lB 0)) = some (recN lB 0) := by kernel_rfl
theorem hs : (Rep.encR (recN lB 0)).size ≤ 1000000 := of_decide_eq_true (by kernel_rfl)
theorem h14 : Rep.validB 2 l4 = true := by kernel_rfl
theorem h15 : Rep.validB (-1) [] = false := by kernel_rfl
theorem h16 : decide ((2 : Int) = 2 ∧ l4 = l4) = true := by kernel_rfl
theorem h17 : decide ((2 : Int) = 2 ∧ l4 = l3) = false := by kernel_rfl
end San
theorem TxtB.one {w : World} {B : Nat} {x : Rec} (h : BoxAt w B 0 (.string x.x)) : TxtB w B 1 [x] := ⟨fun i hi => by
 match i, hi with
 | 0, _ => exact h.1
 | _ + 1, h => omega⟩
theorem TxtB.three {w : World} {B : Nat} {x y z : Rec} (h : BoxAt w B 0 (.string x.x)) (k : BoxAt w B 1 (.string y.x)) (m : BoxAt w B 2 (.string z.x)) : TxtB w B 3 [x, y, z] := ⟨fun i hi => by
 match i, hi with
 | 0, _ => exact h.1
 | 1, _ => exact k.1
 | 2, _ => exact m.1
 | _ + 3, h => omega⟩
theorem Same_r {w1 w2 : World} {a1 a2 : Option Addr} {n1 n2 : Nat} {l1 l2 : List Rec} {c1 c2 : Int} {r : Bool} (k1 k2 : Nat) (w : World) (H1 : RecsAt w1 a1 n1 l1) (e1 : Ext w1 w) (H2 : RecsAt w2 a2 n2 l2) (e2 : Ext w2 w) (hr : decide (c1 = c2 ∧ l1 = l2) = r) : Calls Tryz.prog 30 #[.agg #[.int .i64 c1, .slice a1 n1 k1], .agg #[.int .i64 c2, .slice a2 n2 k2]] w fun e w' => e = .returned (.bool r) ∧ Ext w w' := hr ▸ Same_c k1 k2 w H1 e1 H2 e2
theorem sane_c (w : World) (hRl : RootAt w) : Calls Tryz.prog 10 #[] w fun e w' => e = .returned (.bool true) ∧ Ext w w' := by
 refine calls_cw 230 [] Tryz.func10 rfl Tryz.ntmps10 (by kernel_rfl) (by kernel_rfl) (fun L => ?_);have hE := Ext.refl w;refine zc (zp (pT (.bool false) ?_));refine zn (zc (zp (pS (sc 33 #[iv 2] ((New_y (c := 2) _ (by omega) (hRl.ext (Ext.refl _))).mono ?_)))));rintro e w1 ⟨rfl, hb⟩;replace hE := hE.trans hb;have Db := hb.size;refine ⟨_, rfl, pD (.tuple #[.agg #[iv 2, .slice none 0 0], iv 0]) (.agg #[iv 2, .slice none 0 0]) ?_⟩;refine pT (iv 0) ?_;refine pS (sw 25 #[iv 0, .slice none 0 0] ?_);intro O3 X4 Dq Ha hb hbx;have ⟨Bc, Bf⟩ := bq2 hbx;replace hE := hE.trans hb;have Dt := hb.size;have Da := Bc.lt;refine pP (sn_set2 (O := O3) (j := 0) (v := iv 2) (v' := .slice none 0 0) (xt (pw O3 0) (.agg #[iv 2, .slice none 0 0]) (st25 Bc.1 Bc.2 Bf.1 Bf.2)) Bc Bf ?_);intro X7 ho Bc Bf hk;replace hE := ho.ext hE (T Db (Nat.le_of_eq Dq));have Cu := Nat.le_of_eq ho.size.symm;clear ho hk;refine pT (iv 0) ?_;refine zn (zc (zp (pS (sc 33 #[iv 5] ((New_y (c := 5) _ (by omega) (hRl.ext hE)).mono ?_)))));rintro e w9 ⟨rfl, hb⟩;refine mv3 hb hE Bc Bf fun hE Bc Bf=>?_;have C8 := hb.size;refine ⟨_, rfl, pD (.tuple #[.agg #[iv 5, .slice none 0 0], iv 0]) (.agg #[iv 5, .slice none 0 0]) ?_⟩;refine pT (iv 0) ?_;refine pS (sw 25 #[iv 0, .slice none 0 0] ?_);intro De Gl Ck G8 hb hbx;have ⟨Bb, Be⟩ := bq2 hbx;refine mv3 hb hE Bc Bf fun hE Bc Bf=>?_;have Cs := hb.size;have D6 := Bb.lt;refine pP (sn_set2 (O := De) (j := 0) (v := iv 5) (v' := .slice none 0 0) (xt (pw De 0) (.agg #[iv 5, .slice none 0 0]) (st25 Bb.1 Bb.2 Be.1 Be.2)) Bb Be ?_);intro Fc ho Bb Be hk;replace hE := ho.ext hE (by omega);have q9 := ho.bx O3 (by omega);replace Bc := q9 Bc;replace Bf := q9 Bf;clear q9;have Cf := Nat.le_of_eq ho.size.symm;clear ho hk;refine pT (iv 0) ?_;refine zn (zc (zp (pU (.agg #[iv 2, .slice none 0 0]) (xl (ld25 (Bc.1) (Bf.1))) ?_)));refine pS (sc 18 #[.agg #[iv 2, .slice none 0 0], iv 100, iv 1, .string (⟨#[119, 104, 111, 108, 101]⟩)] ((Add_y _ 100 1 ⟨#[119, 104, 111, 108, 101]⟩ _ (RecsAt.nil Fc) (Ext.refl _) (hRl.ext hE) San.h1).mono ?_));rintro e F5 ⟨Df, Hb, Dj, rfl, Dy, Fe, Cv, hb⟩;obtain rfl : 1 = Hb := Dy.len;refine mv5 hb hE Bc Bf Bb Be fun hE Bc Bf Bb Be=>?_;have Cn := hb.size;have Gw := Ext.refl F5;refine ⟨_, rfl, pD (.tuple #[.agg #[iv 2, .slice Df 1 Dj], iv 0]) (.agg #[iv 2, .slice Df 1 Dj]) ?_⟩;refine pT (iv 0) ?_;have Bw := Dy;refine pP (sn_set2 (O := O3) (j := 0) (v := iv 2) (v' := .slice Df 1 Dj) (xt (pw O3 0) (.agg #[iv 2, .slice Df 1 Dj]) (st25 Bc.1 Bc.2 Bf.1 Bf.2)) Bc Bf ?_);intro Fd ho Bc Bf hk;replace hE := ho.ext hE (T Db (Nat.le_of_eq Dq));have q9 := ho.bx De (by omega);replace Bb := q9 Bb;replace Be := q9 Be;clear q9;replace Bw := Bw.turn ho (fun ad e => Nat.ne_of_gt (Nat.lt_of_lt_of_le (by omega) (Cv ad e)));have Co := Nat.le_of_eq ho.size.symm;clear ho hk;refine pT (iv 0) ?_;refine zn (cK [1,2,3,4,5] (fun L => ?_));refine zc (zp (pU (.agg #[iv 5, .slice none 0 0]) (xl (ld25 (Bb.1) (Be.1))) ?_));refine pU (.agg #[iv 2, .slice Df 1 Dj]) (xl (ld25 (Bc.1) (Bf.1))) ?_;refine pS (sc 26 #[.agg #[iv 5, .slice none 0 0], .agg #[iv 2, .slice Df 1 Dj]] ((Merge_y _ _ _ (RecsAt.nil Fd) (Ext.refl _) (Bw) (Ext.refl _) (hRl.ext hE) San.h2).mono ?_));rintro e F6 ⟨Dr, Hc, Du, rfl, Dz, Ff, D3, hb⟩;obtain rfl : 1 = Hc := Dz.len;refine mv6 hb hE Bb Be Bw Bc Bf fun hE Bb Be Bw Bc Bf=>?_;have Cx := hb.size;have Gx := Ext.refl F6;refine ⟨_, rfl, pD (.tuple #[.agg #[iv 5, .slice Dr 1 Du], iv 0]) (.agg #[iv 5, .slice Dr 1 Du]) ?_⟩;refine pT (iv 0) ?_;have Bz := Dz;refine pP (sn_set2 (O := De) (j := 0) (v := iv 5) (v' := .slice Dr 1 Du) (xt (pw De 0) (.agg #[iv 5, .slice Dr 1 Du]) (st25 Bb.1 Bb.2 Be.1 Be.2)) Bb Be ?_);intro Gs ho Bb Be hk;replace hE := ho.ext hE (by omega);replace Bw := Bw.turn ho (fun ad e => Nat.ne_of_gt (Nat.lt_of_lt_of_le (Nat.lt_of_lt_of_le D6 Cf) (Cv ad e)));have q9 := ho.bx O3 (by omega);replace Bc := q9 Bc;replace Bf := q9 Bf;clear q9;replace Bz := Bz.turn ho (fun ad e => Nat.ne_of_gt (Nat.lt_of_lt_of_le (by omega) (D3 ad e)));have Cy := Nat.le_of_eq ho.size.symm;clear ho hk;refine pT (iv 0) ?_;refine zn (zc (zp (pU (.agg #[iv 5, .slice Dr 1 Du]) (xl (ld25 (Bb.1) (Be.1))) ?_)));refine pS (sc 22 #[.agg #[iv 5, .slice Dr 1 Du], iv 200, iv 2, iv 1, iv 1, .string (⟨#[99, 114, 97, 99, 107, 101, 100]⟩)] ((Correct_y _ 200 2 1 1 ⟨#[99, 114, 97, 99, 107, 101, 100]⟩ _ (Bz) (Ext.refl _) (hRl.ext hE) San.h3).mono ?_));rintro e F7 ⟨D7, Hd, D8, rfl, E0, Fg, Di, hb⟩;obtain rfl : 2 = Hd := E0.len;refine mv6 hb hE Bw Bc Bf Bb Be fun hE Bw Bc Bf Bb Be=>?_;have Dc := hb.size;have Gy := Ext.refl F7;refine ⟨_, rfl, pD (.tuple #[.agg #[iv 5, .slice D7 2 D8], iv 0]) (.agg #[iv 5, .slice D7 2 D8]) ?_⟩;refine pT (iv 0) ?_;have C0 := E0;refine pP (sn_set2 (O := De) (j := 0) (v := iv 5) (v' := .slice D7 2 D8) (xt (pw De 0) (.agg #[iv 5, .slice D7 2 D8]) (st25 Bb.1 Bb.2 Be.1 Be.2)) Bb Be ?_);intro Gt ho Ci Cj hk;replace hE := ho.ext hE (by omega);replace Bw := Bw.turn ho (fun ad e => Nat.ne_of_gt (Nat.lt_of_lt_of_le (Nat.lt_of_lt_of_le D6 Cf) (Cv ad e)));have q9 := ho.bx O3 (by omega)
 replace Bc := q9 Bc;replace Bf := q9 Bf;clear q9;replace C0 := C0.turn ho (fun ad e => Nat.ne_of_gt (Nat.lt_of_lt_of_le (by omega) (Di ad e)));have Dd := Nat.le_of_eq ho.size.symm;clear ho hk Bb Be;have Bb := Ci;clear Ci;have Be := Cj;clear Cj;refine pT (iv 0) ?_;refine zn (cK [1,2,3,4,5,6,7] (fun L => ?_));refine zc (zp (pU (.agg #[iv 2, .slice Df 1 Dj]) (xl (ld25 (Bc.1) (Bf.1))) ?_));refine pS (sc 22 #[.agg #[iv 2, .slice Df 1 Dj], iv 150, iv 2, iv 1, iv 1, .string (⟨#[115, 116, 97, 105, 110, 101, 100]⟩)] ((Correct_y _ 150 2 1 1 ⟨#[115, 116, 97, 105, 110, 101, 100]⟩ _ (Bw) (Ext.refl _) (hRl.ext hE) San.h4).mono ?_));rintro e F8 ⟨Cw, He, D0, rfl, E1, Fh, E5, hb⟩;obtain rfl : 2 = He := E1.len;refine mv6 hb hE Bc Bf C0 Bb Be fun hE Bc Bf C0 Bb Be=>?_;have Dm := hb.size;have Gz := Ext.refl F8;refine ⟨_, rfl, pD (.tuple #[.agg #[iv 2, .slice Cw 2 D0], iv 0]) (.agg #[iv 2, .slice Cw 2 D0]) ?_⟩;refine pT (iv 0) ?_;have C1 := E1;refine pP (sn_set2 (O := O3) (j := 0) (v := iv 2) (v' := .slice Cw 2 D0) (xt (pw O3 0) (.agg #[iv 2, .slice Cw 2 D0]) (st25 Bc.1 Bc.2 Bf.1 Bf.2)) Bc Bf ?_);intro Gu ho Bc Bf hk;replace hE := ho.ext hE (T Db (Nat.le_of_eq Dq));replace C0 := C0.turn ho (fun ad e => Nat.ne_of_gt (Nat.lt_of_lt_of_le (by omega) (Di ad e)));have q9 := ho.bx De (by omega);replace Bb := q9 Bb;replace Be := q9 Be;clear q9;replace C1 := C1.turn ho (fun ad e => Nat.ne_of_gt (Nat.lt_of_lt_of_le (by omega) (E5 ad e)));have Dn := Nat.le_of_eq ho.size.symm;clear ho hk;refine pT (iv 0) ?_;refine zn (zc (zc (zp (pD (iv 0) (.bool false) ?_))));refine pD (.bool false) (iv 0) ?_;refine pD (.bool false) (.bool false) ?_;refine pD (.bool false) (iv 0) ?_;refine pD (.bool false) (.bool false) ?_;refine pD (.bool false) (iv 0) ?_;refine pD (.bool false) (.bool false) ?_;refine pD (.bool false) (iv 0) ?_;refine pD (.bool false) (.bool false) ?_;refine pD (.bool false) (iv 0) ?_;refine pD (.bool false) (.bool false) ?_;refine zn (cK [1,3,80] (fun L => ?_));refine zf ?_;refine cw_skip (zq (zc (zp (pU (.agg #[iv 2, .slice Cw 2 D0]) (xl (ld25 (Bc.1) (Bf.1))) ?_))));refine pS (sc 13 #[.agg #[iv 2, .slice Cw 2 D0]] ((Fold_y _ _ (C1) (Ext.refl _) (hRl.ext hE) San.h5).mono ?_));rintro e Gh ⟨Dw, Hf, E6, rfl, E2, Fi, hb⟩;obtain rfl : 1 = Hf := E2.len;refine mv7 hb hE C0 Bb Be C1 Bc Bf fun hE C0 Bb Be C1 Bc Bf=>?_;have Do := hb.size;have Bn := Ext.refl Gh;refine ⟨_, rfl, pD (.tuple #[.slice Dw 1 E6, iv 0]) (.slice Dw 1 E6) ?_⟩;refine pD (iv 0) (.slice Dw 1 E6) ?_;refine pT (iv 0) ?_;refine zn (zc (zp (pU (.agg #[iv 5, .slice D7 2 D8]) (xl (ld25 (Bb.1) (Be.1))) ?_)));refine pS (sc 13 #[.agg #[iv 5, .slice D7 2 D8]] ((Fold_y _ _ (C0) (Ext.refl _) (hRl.ext hE) San.h6).mono ?_));rintro e Gi ⟨Dx, Hg, E7, rfl, E3, Fj, hb⟩;obtain rfl : 1 = Hg := E3.len;refine mv7 hb hE Bn C0 Bb Be C1 Bc fun hE Bn C0 Bb Be C1 Bc=>?_;replace Bf := Bf.x hb;have Cz := hb.size;have Bp := Ext.refl Gi;refine ⟨_, rfl, pD (.tuple #[.slice Dx 1 E7, iv 0]) (.slice Dx 1 E7) ?_⟩;refine pD (iv 0) (.slice Dx 1 E7) ?_;refine pT (iv 0) ?_;refine zn (cK [1,3,9,10,11,12] (fun L => ?_));refine zc (zp (pU (.agg #[iv 2, .slice Cw 2 D0]) (xl (ld25 (Bc.1) (Bf.1))) ?_));refine pU (.agg #[iv 5, .slice D7 2 D8]) (xl (ld25 (Bb.1) (Be.1))) ?_;refine pS (sc 28 #[.agg #[iv 2, .slice Cw 2 D0], .agg #[iv 5, .slice D7 2 D8]] ((Behind_y _ _ _ (C1) (Ext.refl _) (C0) (Ext.refl _) (hRl.ext hE) San.h7).mono ?_));rintro e Gj ⟨Ed, Hh, D9, rfl, E4, Fk, hb⟩;obtain rfl : 1 = Hh := E4.len;refine mv9 hb hE Bn Bp C0 Bb Be C1 Bc Bf fun hE Bn Bp C0 Bb Be C1 Bc Bf=>?_;have Cp := hb.size;have Bq := Ext.refl Gj;refine ⟨_, rfl, pD (.tuple #[.slice Ed 1 D9, iv 0]) (.slice Ed 1 D9) ?_⟩;refine pD (iv 0) (.slice Ed 1 D9) ?_;refine pT (iv 0) ?_;refine zn (zc (zp (pU (.agg #[iv 2, .slice Cw 2 D0]) (xl (ld25 (Bc.1) (Bf.1))) ?_)));refine pU (.agg #[iv 5, .slice D7 2 D8]) (xl (ld25 (Bb.1) (Be.1))) ?_;refine pS (sc 26 #[.agg #[iv 2, .slice Cw 2 D0], .agg #[iv 5, .slice D7 2 D8]] ((Merge_y _ _ _ (C1) (Ext.refl _) (C0) (Ext.refl _) (hRl.ext hE) San.h8).mono ?_));rintro e Gk ⟨Cm, Hi, Cq, rfl, Cr, Fl, Fm, hb⟩;obtain rfl : 3 = Hi := Cr.len;refine mv7 hb hE Bn Bp Bq C1 Bc Bf fun hE Bn Bp Bq C1 Bc Bf=>?_;have Cl := hb.size;have Bh := Ext.refl Gk;refine ⟨_, rfl, pD (.tuple #[.agg #[iv 2, .slice Cm 3 Cq], iv 0]) (.agg #[iv 2, .slice Cm 3 Cq]) ?_⟩;refine pT (iv 0) ?_;refine pS (sw 25 #[iv 0, .slice none 0 0] ?_);intro Ec Gv Ct G9 hb hbx;have ⟨Br, Bu⟩ := bq2 hbx;refine mv5 hb hE Bn Bp Bq Bh fun hE Bn Bp Bq Bh=>?_;have C9 := hb.size;have Ga := Br.lt;refine pP (sn_set2 (O := Ec) (j := 0) (v := iv 2) (v' := .slice Cm 3 Cq) (xt (pw Ec 0) (.agg #[iv 2, .slice Cm 3 Cq]) (st25 Br.1 Br.2 Bu.1 Bu.2)) Br Bu ?_);intro Ei ho Br Bu hk;replace hE := ho.ext hE (by omega);replace Bn := ho.ext Bn (T (T Cz (T Cp Cl)) (Nat.le_of_eq Ct));replace Bp := ho.ext Bp (T (T Cp Cl) (Nat.le_of_eq Ct));replace Bq := ho.ext Bq (T Cl (Nat.le_of_eq Ct));replace Bh := ho.ext Bh (Nat.le_of_eq Ct);have Ca := Nat.le_of_eq ho.size.symm;clear ho hk;refine pT (iv 0) ?_;refine zn (cK [1,9,10,11,12,13,14,15,16] (fun L => ?_));refine zc (zp (pU (.agg #[iv 2, .slice Cm 3 Cq]) (xl (ld25 (Br.1) (Bu.1))) ?_))
 refine pS (sc 13 #[.agg #[iv 2, .slice Cm 3 Cq]] ((Fold_y _ _ ((Cr.ext Bh)) (Ext.refl _) (hRl.ext hE) San.h9).mono ?_));rintro e E8 ⟨D1, F2, D4, rfl, Dg, Eo, hb⟩;obtain rfl : 1 = F2 := Dg.len;refine mv7 hb hE Bn Bp Bq Bh Br Bu fun hE Bn Bp Bq Bh Br Bu=>?_;have Cb := hb.size;have Bi := Ext.refl E8;refine ⟨_, rfl, pD (.tuple #[.slice D1 1 D4, iv 0]) (.slice D1 1 D4) ?_⟩;refine pD (iv 0) (.slice D1 1 D4) ?_;refine pT (iv 0) ?_;refine zn (cK [1,9,10,11,12,13,14,15,16,17,18] (fun L => ?_));refine zc (zp (pU (.agg #[iv 2, .slice Cm 3 Cq]) (xl (ld25 (Br.1) (Bu.1))) ?_));refine pS (sc 24 #[.agg #[iv 2, .slice Cm 3 Cq], iv 2, iv 1] ((History_y _ _ ((Cr.ext Bh)) (Ext.refl _) (hRl.ext hE) San.h10).mono ?_));rintro e E9 ⟨D2, F3, D5, rfl, Dh, Ep, hb⟩;obtain rfl : 3 = F3 := Dh.len;refine mv7 hb hE Bn Bp Bq Bh Bi Br fun hE Bn Bp Bq Bh Bi Br=>?_;replace Bu := Bu.x hb;have C5 := hb.size;have Bk := Ext.refl E9;refine ⟨_, rfl, pD (.tuple #[.slice D2 3 D5, iv 0]) (.slice D2 3 D5) ?_⟩;refine pD (iv 0) (.slice D2 3 D5) ?_;refine pT (iv 0) ?_;refine zn (cK [1,9,10,11,12,13,14,15,16,17,18,19,20] (fun L => ?_));refine zc (zp (pU (.agg #[iv 2, .slice Cm 3 Cq]) (xl (ld25 (Br.1) (Bu.1))) ?_));refine pS (sc 24 #[.agg #[iv 2, .slice Cm 3 Cq], iv 3, iv 1] ((History_n _ _ ((Cr.ext Bh)) (Ext.refl _) (hRl.ext hE) San.h11).mono ?_));rintro e Hj ⟨rfl, hb⟩;refine mv9 hb hE Bn Bp Bq Bh Bi Bk Br Bu fun hE Bn Bp Bq Bh Bi Bk Br Bu=>?_;have C2 := hb.size;refine ⟨_, rfl, pD (.tuple #[.slice none 0 0, iv 350]) (.slice none 0 0) ?_⟩;refine pD (iv 350) (.slice none 0 0) ?_;refine pT (iv 350) ?_;refine zn (cK [1,9,10,11,12,13,14,15,16,17,18,19,20,22] (fun L => ?_));refine zc (zp (pS (sc 33 #[iv 16] ((New_n (c := 16) _ (by omega) (hRl.ext hE)).mono ?_))));rintro e Ea ⟨rfl, hb⟩;refine mv9 hb hE Bn Bp Bq Bh Bi Bk Br Bu fun hE Bn Bp Bq Bh Bi Bk Br Bu=>?_;have C3 := hb.size;have Bg := Ext.refl Ea;refine ⟨_, rfl, pD (.tuple #[.agg #[iv 0, .slice none 0 0], iv 350]) (.agg #[iv 0, .slice none 0 0]) ?_⟩;refine pT (iv 350) ?_;refine pS (sw 25 #[iv 0, .slice none 0 0] ?_);intro Dv Ej C6 Er hb hbx;have ⟨C7, Cc⟩ := bq2 hbx;refine mv7 hb hE Bn Bp Bq Bh Bi Bk fun hE Bn Bp Bq Bh Bi Bk=>?_;replace Bg := Bg.trans hb;have Cg := hb.size;have Gb := C7.lt;refine pP (sn_set2 (O := Dv) (j := 0) (v := iv 0) (v' := .slice none 0 0) (xt (pw Dv 0) (.agg #[iv 0, .slice none 0 0]) (st25 C7.1 C7.2 Cc.1 Cc.2)) C7 Cc ?_);intro Dl ho C7 Cc hk;replace hE := ho.ext hE (by omega);replace Bn := ho.ext Bn (by omega);replace Bp := ho.ext Bp (by omega);replace Bq := ho.ext Bq (by omega);replace Bh := ho.ext Bh (by omega);replace Bi := ho.ext Bi (T (T C5 (T C2 C3)) (Nat.le_of_eq C6));replace Bk := ho.ext Bk (T (T C2 C3) (Nat.le_of_eq C6));replace Bg := ho.ext Bg (Nat.le_of_eq C6);have Ch := Nat.le_of_eq ho.size.symm;clear ho hk;refine pT (iv 350) ?_;refine zn (cK [1,9,10,11,12,13,14,15,16,17,18,19,20,22,24] (fun L => ?_));refine zc (zc (zp (pD (iv 0) (.bool false) ?_)));refine pD (.bool false) (iv 0) ?_;refine pD (.bool false) (.bool false) ?_;refine pD (.bool false) (iv 0) ?_;refine pD (.bool false) (.bool false) ?_;refine pD (.bool false) (iv 0) ?_;refine pD (.bool false) (.bool false) ?_;refine pD (.bool false) (iv 0) ?_;refine pD (.bool false) (.bool false) ?_;refine pD (.bool false) (iv 0) ?_;refine pD (.bool false) (.bool false) ?_;refine pD (.bool false) (iv 350) ?_;refine pD (.bool false) (.bool false) ?_;refine pD (.bool false) (iv 350) ?_;refine pD (.bool false) (.bool false) ?_;refine pD (.bool false) (.slice Ed 1 D9) ?_;refine pD (iv 1) (.bool false) ?_;refine pT (.bool false) ?_;refine zn (cK [1,9,11,13,15,17,19,156] (fun L => ?_));refine zf ?_;refine cw_skip (qw_then ?_);refine cw_seq ?_;have Bm := Ext.refl Dl;have Em := (E4.ext Bq);obtain ⟨b9, o9, H3, En, Dp⟩ := Em.parts;have H5 := Em.len;have H6 := Em.max;have H4 := En (by omega);obtain rfl := H3 (by omega);refine zp (pT (sv b9 o9 1 D9) ?_);refine pU (pw b9 o9) (xi (sv b9 o9 1 D9) (iv ((0 : Nat) : Int)) (ix23 (k := 0) (by omega))) ?_;refine pU (rvv (recN San.lB 0)) (xl (rl (Dp.r (i := 0) (by omega)))) ?_;refine pS (sc 31 #[rvv (recN San.lB 0)] ((Encode_y (x := (recN San.lB 0)) _ (hRl.ext hE) San.h12).mono ?_));rintro e Hk ⟨rfl, hb⟩;refine mv7 hb hE Bn Bp Bh Bi Bk Bg fun hE Bn Bp Bh Bi Bk Bg=>?_;replace Bm := Bm.trans hb;have Cd := hb.size;refine ⟨_, rfl, pD (.tuple #[.string (Rep.encR (recN San.lB 0)), iv 0]) (.string (Rep.encR (recN San.lB 0))) ?_⟩;refine pD (iv 0) (.string (Rep.encR (recN San.lB 0))) ?_;refine pT (iv 0) ?_;refine zn (cK [1,9,11,13,15,17,19,25,26] (fun L => ?_));refine zc (zp (pT (.string (Rep.encR (recN San.lB 0))) ?_));refine pS (sc 35 #[.string (Rep.encR (recN San.lB 0))] ((Decode_y (x := (recN San.lB 0)) _ San.hs (hRl.ext hE) San.h13).mono ?_))
 rintro e Eb ⟨rfl, hb⟩;refine mv7 hb hE Bn Bp Bh Bi Bk Bg fun hE Bn Bp Bh Bi Bk Bg=>?_;replace Bm := Bm.trans hb;have Ce := hb.size;have Bt := Ext.refl Eb;refine ⟨_, rfl, pD (.tuple #[rvv (recN San.lB 0), iv 0]) (rvv (recN San.lB 0)) ?_⟩;refine pT (iv 0) ?_;refine pS (sw 49 #[iv 0, iv 0, iv 0, iv 0, iv 0, iv 0, .string (⟨#[]⟩)] ?_);intro Dk Ek C4 Es hb hbx;have ⟨B0, B2, B3, B4, B7, B8, Ba⟩ := bq7 hbx;refine mv7 hb hE Bn Bp Bh Bi Bk Bg fun hE Bn Bp Bh Bi Bk Bg=>?_;replace Bm := Bm.trans hb;have Fo := hb.size;have Gc := B0.lt;refine pP (sn_setK7 (O := Dk) (j := 0) (v0 := iv ((recN San.lB 0).c : Int)) (v1 := iv ((recN San.lB 0).n : Int)) (v2 := iv ((recN San.lB 0).t : Int)) (v3 := iv ((recN San.lB 0).o : Int)) (v4 := iv ((recN San.lB 0).w : Int)) (v5 := iv ((recN San.lB 0).k : Int)) (v6 := .string ((recN San.lB 0).x)) (xt (pw Dk 0) (rvv (recN San.lB 0)) (st49 B0.1 B0.2 B2.1 B2.2 B3.1 B3.2 B4.1 B4.2 B7.1 B7.2 B8.1 B8.2 Ba.1 Ba.2)) B0 B2 B3 B4 B7 B8 Ba ?_);intro El ho B0 B2 B3 B4 B7 B8 Ba hk;replace hE := ho.ext hE (by omega);replace Bn := ho.ext Bn (by omega);replace Bp := ho.ext Bp (by omega);replace Bh := ho.ext Bh (by omega);replace Bi := ho.ext Bi (by omega);replace Bk := ho.ext Bk (by omega);replace Bg := ho.ext Bg (by omega);replace Bm := ho.ext Bm (T (T Cd Ce) (Nat.le_of_eq C4));have Fp := Nat.le_of_eq ho.size.symm;clear ho hk;refine pT (iv 0) ?_;refine zn (cK [1,9,11,13,15,17,19,26,27,28] (fun L => ?_));refine zc (zp (pT (.slice Dw 1 E6) ?_));refine pS (sn_newS (us := #[.string (⟨#[115, 116, 97, 105, 110, 101, 100]⟩)]) (t := 9) (k := 1) (c := 1) (by kernel_rfl) ?_);intro Ee Gm Ey Et hb hbx;have Bj := bq1 hbx;refine mv12 hb hE Bn Bp Bh Bi Bk Bg Bm B0 B2 B3 B4 fun hE Bn Bp Bh Bi Bk Bg Bm B0 B2 B3 B4=>?_;refine mv3 hb B7 B8 Ba fun B7 B8 Ba=>?_;have Fq := hb.size;have Gd := Bj.lt;refine pS (sc 41 #[.slice Dw 1 E6, sv Ee 0 1 1] ((texts_y _ _ _ ((E2.ext Bn)) (Ext.refl _) (TxtB.one Bj)).mono ?_));rintro e Hl ⟨rfl, hb⟩;refine mv12 hb hE Bp Bh Bi Bk Bg Bm B0 B2 B3 B4 B7 fun hE Bp Bh Bi Bk Bg Bm B0 B2 B3 B4 B7=>?_;refine mv2 hb B8 Ba fun B8 Ba=>?_;have Fr := hb.size;refine ⟨_, rfl, pD (.bool true) (.slice Dx 1 E7) ?_⟩;refine pS (sn_newS (us := #[.string (⟨#[99, 114, 97, 99, 107, 101, 100]⟩)]) (t := 9) (k := 1) (c := 1) (by kernel_rfl) ?_);intro Ef Gn Ez Eu hb hbx;have Bo := bq1 hbx;refine mv12 hb hE Bp Bh Bi Bk Bg Bm B0 B2 B3 B4 B7 fun hE Bp Bh Bi Bk Bg Bm B0 B2 B3 B4 B7=>?_;refine mv2 hb B8 Ba fun B8 Ba=>?_;have Fs := hb.size;have Ge := Bo.lt;refine pS (sc 41 #[.slice Dx 1 E7, sv Ef 0 1 1] ((texts_y _ _ _ ((E3.ext Bp)) (Ext.refl _) (TxtB.one Bo)).mono ?_));rintro e Hm ⟨rfl, hb⟩;refine mv12 hb hE Bh Bi Bk Bg Bm B0 B2 B3 B4 B7 B8 fun hE Bh Bi Bk Bg Bm B0 B2 B3 B4 B7 B8=>?_;replace Ba := Ba.x hb;have Ft := hb.size;refine ⟨_, rfl, pD (.bool true) (.bool true) ?_⟩;refine pT (.slice D1 1 D4) ?_;refine pS (sn_newS (us := #[.string (⟨#[99, 114, 97, 99, 107, 101, 100]⟩)]) (t := 9) (k := 1) (c := 1) (by kernel_rfl) ?_);intro Eg Gp F0 Ev hb hbx;have Bs := bq1 hbx;refine mv12 hb hE Bh Bi Bk Bg Bm B0 B2 B3 B4 B7 B8 fun hE Bh Bi Bk Bg Bm B0 B2 B3 B4 B7 B8=>?_;replace Ba := Ba.x hb;have Fu := hb.size;have Gf := Bs.lt;refine pS (sc 41 #[.slice D1 1 D4, sv Eg 0 1 1] ((texts_y _ _ _ ((Dg.ext Bi)) (Ext.refl _) (TxtB.one Bs)).mono ?_));rintro e Hn ⟨rfl, hb⟩;refine mv12 hb hE Bh Bk Bg Bm B0 B2 B3 B4 B7 B8 Ba fun hE Bh Bk Bg Bm B0 B2 B3 B4 B7 B8 Ba=>?_;have Fv := hb.size;refine ⟨_, rfl, pD (.bool true) (.bool true) ?_⟩;refine pT (.slice D2 3 D5) ?_;refine pS (sn_newS (us := #[.string (⟨#[119, 104, 111, 108, 101]⟩), .string (⟨#[115, 116, 97, 105, 110, 101, 100]⟩), .string (⟨#[99, 114, 97, 99, 107, 101, 100]⟩)]) (t := 9) (k := 3) (c := 3) (by kernel_rfl) ?_)
 intro Eh Gq F1 Ew hb hbx;have ⟨Bv, Bx, By⟩ := bq3 hbx;refine mv12 hb hE Bh Bk Bg Bm B0 B2 B3 B4 B7 B8 Ba fun hE Bh Bk Bg Bm B0 B2 B3 B4 B7 B8 Ba=>?_;have Fw := hb.size;have Gg := Bv.lt;refine pS (sc 41 #[.slice D2 3 D5, sv Eh 0 3 3] ((texts_y _ _ _ ((Dh.ext Bk)) (Ext.refl _) (TxtB.three Bv Bx By)).mono ?_));rintro e Ho ⟨rfl, hb⟩;refine mv9 hb hE Bh Bg Bm B0 B2 B3 B4 B7 fun hE Bh Bg Bm B0 B2 B3 B4 B7=>?_;refine mv2 hb B8 Ba fun B8 Ba=>?_;have Fx := hb.size;refine ⟨_, rfl, pD (.bool true) (.bool true) ?_⟩;refine zn (cK [1,13,15,26,27,28,29] (fun L => ?_));refine zc (dE Tz62_0 (fun w' => RecAt w' Dk 0 (recN San.lB 0) ∧ RecAt w' b9 o9 (recN San.lB 0) ∧ w'.cell? ⟨Ec, 0, none⟩ = some (iv 2) ∧ w'.cell? ⟨Ec, 1, none⟩ = some (.slice Cm 3 Cq) ∧ w'.cell? ⟨O3, 0, none⟩ = some (iv 2) ∧ w'.cell? ⟨O3, 1, none⟩ = some (.slice Cw 2 D0)) (⟨(r7 B0.1 B2.1 B3.1 B4.1 B7.1 B8.1 Ba.1), ((Dp.ext Bm).r (i := 0) (by omega)), (Br.x Bg).1, (Bu.x Bg).1, (Bc.x Bh).1, (Bf.x Bh).1⟩) (fun ops Q Gr hb hL hR hK => ?_));refine mv9 hb hE Bh Bg Bm B0 B2 B3 B4 B7 fun hE Bh Bg Bm B0 B2 B3 B4 B7=>?_;refine mv2 hb B8 Ba fun B8 Ba=>?_;have Fy := hb.size;have hS := A6 (r7 B0.1 B2.1 B3.1 B4.1 B7.1 B8.1 Ba.1) ((Dp.ext Bm).r (i := 0) (by omega)) (Br.c Bg) (Bu.c Bg) (Bc.c Bh) (Bf.c Bh);refine wW 0 (.bool true) 1 (.bool true) hR hS ?_;refine wW 2 (iv 0) 3 (.bool true) hR hS ?_;refine wW 4 (.bool true) 5 (.bool true) hR hS ?_;refine wW 6 (iv 0) 7 (.bool true) hR hS ?_;refine wW 8 (.bool true) 9 (.bool true) hR hS ?_;refine wM 10 (rvv (recN San.lB 0)) hR (fun w hS => rl hS.1) hS ?_;refine wV 11 (sv b9 o9 1 D9) hR hS ?_;refine wL 12 (pw b9 o9) hR (fun w _ => ex_index (p := sv b9 o9 1 D9) (i := iv ((0 : Nat) : Int)) rfl (by kernel_rfl) (by kernel_rfl) (ix23 (k := 0) (by omega))) hS ?_;refine wM 13 (rvv (recN San.lB 0)) hR (fun w hS => rl hS.2.1) hS ?_;refine wL 14 (.bool true) hR (fun w _ => ex_binV (a := rvv (recN San.lB 0)) (b := rvv (recN San.lB 0)) rfl (by kernel_rfl) (by kernel_rfl) (eqG_agg (by kernel_rfl)) (bin_eqv_t (rec_eq _ ((recN San.lB 0)) ((recN San.lB 0))) rfl)) hS ?_;refine wW 15 (.bool true) 16 (.bool true) hR hS ?_;refine wV 17 (sv b9 o9 1 D9) hR hS ?_;refine wL 18 (pw b9 o9) hR (fun w _ => ex_index (p := sv b9 o9 1 D9) (i := iv ((0 : Nat) : Int)) rfl (by kernel_rfl) (by kernel_rfl) (ix23 (k := 0) (by omega))) hS ?_;refine wM 19 (rvv (recN San.lB 0)) hR (fun w hS => rl hS.2.1) hS ?_;refine wV 20 (.agg #[iv 5, iv 1, iv 200, iv 2, iv 1, iv 1, .string (⟨#[99, 114, 97, 99, 107, 101, 100]⟩)]) hR hS ?_;refine wL 21 (.bool true) hR (fun w _ => ex_binV (a := rvv (recN San.lB 0)) (b := .agg #[iv 5, iv 1, iv 200, iv 2, iv 1, iv 1, .string (⟨#[99, 114, 97, 99, 107, 101, 100]⟩)]) rfl (by kernel_rfl) (by kernel_rfl) (eqG_agg (by kernel_rfl)) (bin_eqv_t (rec_eq _ ((recN San.lB 0)) ((⟨5, 1, 200, 2, 1, 1, ⟨#[99, 114, 97, 99, 107, 101, 100]⟩⟩ : Rec))) rfl)) hS ?_;refine wW 22 (.bool true) 23 (.bool true) hR hS ?_;refine wM 24 (.agg #[iv 2, .slice Cm 3 Cq]) hR (fun w hS => ld25 (hS.2.2.1) (hS.2.2.2.1)) hS ?_;refine wC 25 16 #[.agg #[iv 2, .slice Cm 3 Cq]] hR ((Valid_r (r := true) _ _ ((Cr.ext Bh)) (Ext.refl _) (hRl.ext hE) San.h14).mono ?_);rintro e F4 ⟨rfl, hb⟩;refine mv9 hb hE Bh Bg Bm B0 B2 B3 B4 B7 fun hE Bh Bg Bm B0 B2 B3 B4 B7=>?_;refine mv2 hb B8 Ba fun B8 Ba=>?_;have Fz := hb.size;have hS := A6 (r7 B0.1 B2.1 B3.1 B4.1 B7.1 B8.1 Ba.1) ((Dp.ext Bm).r (i := 0) (by omega)) (Br.c Bg) (Bu.c Bg) (Bc.c Bh) (Bf.c Bh);refine ⟨_, rfl, hS, ?_⟩;refine wW 26 (.bool true) 27 (.bool true) hR hS ?_;refine wV 28 (.agg #[iv (-1 : Int), .slice none 0 0]) hR hS ?_;refine wC 29 16 #[.agg #[iv (-1 : Int), .slice none 0 0]] hR ((Valid_r (r := false) _ _ (RecsAt.nil F4) (Ext.refl _) (hRl.ext hE) San.h15).mono ?_);rintro e Hp ⟨rfl, hb⟩;refine mv9 hb hE Bh Bg Bm B0 B2 B3 B4 B7 fun hE Bh Bg Bm B0 B2 B3 B4 B7=>?_;refine mv2 hb B8 Ba fun B8 Ba=>?_;have G0 := hb.size;have hS := A6 (r7 B0.1 B2.1 B3.1 B4.1 B7.1 B8.1 Ba.1) ((Dp.ext Bm).r (i := 0) (by omega)) (Br.c Bg) (Bu.c Bg) (Bc.c Bh) (Bf.c Bh);refine ⟨_, rfl, hS, ?_⟩;refine wW 30 (.bool true) 31 (.bool true) hR hS ?_;refine wV 32 (.bool true) hR hS ?_;refine wM 33 (.agg #[iv 2, .slice Cm 3 Cq]) hR (fun w hS => ld25 (hS.2.2.1) (hS.2.2.2.1)) hS ?_;refine wM 34 (.agg #[iv 2, .slice Cm 3 Cq]) hR (fun w hS => ld25 (hS.2.2.1) (hS.2.2.2.1)) hS ?_;refine wC 35 30 #[.agg #[iv 2, .slice Cm 3 Cq], .agg #[iv 2, .slice Cm 3 Cq]] hR ((Same_r _ _ _ ((Cr.ext Bh)) (Ext.refl _) ((Cr.ext Bh)) (Ext.refl _) San.h16).mono ?_);rintro e Hq ⟨rfl, hb⟩;refine mv9 hb hE Bh Bg Bm B0 B2 B3 B4 B7 fun hE Bh Bg Bm B0 B2 B3 B4 B7=>?_;refine mv2 hb B8 Ba fun B8 Ba=>?_;have G1 := hb.size;have hS := A6 (r7 B0.1 B2.1 B3.1 B4.1 B7.1 B8.1 Ba.1) ((Dp.ext Bm).r (i := 0) (by omega)) (Br.c Bg) (Bu.c Bg) (Bc.c Bh) (Bf.c Bh);refine ⟨_, rfl, hS, ?_⟩;refine wW 36 (.bool true) 37 (.bool true) hR hS ?_
 refine wM 38 (.agg #[iv 2, .slice Cm 3 Cq]) hR (fun w hS => ld25 (hS.2.2.1) (hS.2.2.2.1)) hS ?_;refine wM 39 (.agg #[iv 2, .slice Cw 2 D0]) hR (fun w hS => ld25 (hS.2.2.2.2.1) (hS.2.2.2.2.2)) hS ?_;refine wC 40 30 #[.agg #[iv 2, .slice Cm 3 Cq], .agg #[iv 2, .slice Cw 2 D0]] hR ((Same_r _ _ _ ((Cr.ext Bh)) (Ext.refl _) ((C1.ext Bh)) (Ext.refl _) San.h17).mono ?_);rintro e Hr ⟨rfl, hb⟩;refine mv9 hb hE Bh Bg Bm B0 B2 B3 B4 B7 fun hE Bh Bg Bm B0 B2 B3 B4 B7=>?_;refine mv2 hb B8 Ba fun B8 Ba=>?_;have G2 := hb.size;have hS := A6 (r7 B0.1 B2.1 B3.1 B4.1 B7.1 B8.1 Ba.1) ((Dp.ext Bm).r (i := 0) (by omega)) (Br.c Bg) (Bu.c Bg) (Bc.c Bh) (Bf.c Bh);refine ⟨_, rfl, hS, ?_⟩;refine wW 41 (.bool true) 42 (.bool true) hR hS ?_;refine wV 43 (.bool true) hR hS ?_;refine we hL hR hK ?_;refine zq (cK [0] (fun L => ?_));refine cw_ret (qw_ret [.bool true] rfl ⟨(by kernel_rfl), trivial⟩ ?_);exact ⟨rfl, hE⟩
end Go.Proofs.YtfmoabgjaclkpaaGreatDoor

namespace Go.Proofs.YtfmoabgjaclkpaaGreatDoor
namespace Rep
end Rep
end Go.Proofs.YtfmoabgjaclkpaaGreatDoor

namespace Go.Proofs.YtfmoabgjaclkpaaGreatDoor
open Go.ChangeShapes Go.WideShapes Go.ChangeAt Go.RowKit
theorem own : ownKnob Tryz.prog.godebug = none := by kernel_rfl
theorem laidOut : laidOutB Tryz.prog = true := by kernel_rfl
def laidTabs : List (String × DataW Unit) := [("nadir/replica.rootless", Rows.laid_nadir_replica_rootless)]
theorem gTab : Tryz.prog.globalNamed "nadir/replica.rootless" = some 0 := by kernel_rfl
theorem tTab : (Tryz.prog.globals[0]?).map (·.type) = some 70 := by kernel_rfl
theorem door_met (os : Os) (args : Array Value) : laidMetH Tryz.prog laidTabs ((World.doorLaid Tryz.prog 19 os).forCall (fun _ _ => 0) ⟨#[], args, []⟩).memory :=
 laidMetH_of_parts3 (fuel := 8) (laidMet_of_run' 8 (by kernel_rfl) (by kernel_rfl)) (by kernel_rfl) (by kernel_rfl)
set_option maxRecDepth 100000 in
theorem lit_two {t : TypeId} {f0 f1 : Field} {W : World} {fuel : Nat} {cs : Array Value} {z0 z1 : Int} {q : List MemPlace} (hu : Tryz.prog.underlying t = some (.struct #[f0, f1])) (h0 : f0.offset = 0) (h1 : f1.offset = 1) (t0 : f0.type = 3) (t1 : f1.type = 3) (h2 : Tryz.prog.cellsOf t = 2)
  (hf : DataW.trod (fun _ => ()) Tryz.prog W 0 (fun _ => true) false fuel t cs.toList = some (.agg [.lit (.int .i64 z0), .lit (.int .i64 z1)], q)) : cs = #[.int .i64 z0, .int .i64 z1] := by
 obtain ⟨xs, m, rfl, hx, hlen, hxl, hg⟩ := DataW.trod_struct hu hf
 have hone : Tryz.prog.cellsOf 3 = 1 := by kernel_rfl
 have g0 := hg 0 f0 rfl
 have g1 := hg 1 f1 rfl
 rw [h0, t0, hone] at g0
 rw [h1, t1, hone] at g1
 have hl : cs.toList.length = 2 := by rw [hlen, h2]
 obtain ⟨l⟩ := cs
 match l, hl, xs, hxl with
 | [x0, x1], _, [y0, y1], _ =>
  have hx1 := congrArg Prod.fst hx
  simp at hx1
  obtain ⟨n0, hn0, hv0, w0⟩ := DataW.trod_int Tryz.underlying3 (show _ = some y0 from g0)
  obtain ⟨n1, hn1, hv1, w1⟩ := DataW.trod_int Tryz.underlying3 (show _ = some y1 from g1)
  simp at hn0 hn1
  subst hv0; subst hv1; subst hn0; subst hn1
  simp at hx1
  obtain ⟨rfl, rfl⟩ := hx1
  rfl
theorem tab_of_laid {W : World} (h : laidMetH Tryz.prog laidTabs W) : RootAt W := by
 rw [MakeChecks.laidMetH_plain _ _ _ (by kernel_rfl)] at h
 obtain ⟨ps, ⟨g', t', cs, fuel, p, q, hg', ht', hvar, hd, _, _⟩, _⟩ := h
 obtain rfl := Option.some.inj (gTab.symm.trans hg')
 obtain rfl := Option.some.inj (tTab.symm.trans ht')
 obtain rfl := lit_two Tryz.underlying70 rfl rfl rfl rfl (by kernel_rfl) hd
 have h0 := World.var?_cell gTab hvar 0
 have h1 := World.var?_cell gTab hvar 1
 exact ⟨h0, h1, World.block_lt_of_cell? W _ h0⟩
theorem isI_of_wf {n : Int} (h : (Lit.int .i64 n).wf = true) : IsI n := by
 simp [Lit.wf, IntKind.min, IntKind.max, IntKind.signed, IntKind.bits] at h
 exact ⟨by omega, by omega⟩
end Go.Proofs.YtfmoabgjaclkpaaGreatDoor

namespace Go.Proofs.YtfmoabgjaclkpaaGreatDoor
open Go.ChangeShapes Go.WideShapes Go.ChangeAt Go.RowKit Go.Deep
section
variable {H : Type} {enc : TypeId × Value → H} {W : World}
theorem ints_of_array {spare : Nat → Bool} {held : Bool} {t : TypeId} {k fuel : Nat} {cs : List Value} {x : DataW H × List MemPlace} (ht : Tryz.prog.underlying t = some (.array k 3)) (h : DataW.trod enc Tryz.prog W 0 spare held fuel t cs = some x) (hc : cs.length = k) :
  ∃ q : Nat → Int, ∀ j, j < k → cs[j]? = some (.int .i64 (q j)) ∧ IsI (q j) := by
 obtain ⟨xs, m, rfl, hx, hlen, hxl, hg⟩ := DataW.trod_array ht h
 have hone : Tryz.prog.cellsOf 3 = 1 := by kernel_rfl
 have each : ∀ j, j < k → ∃ n : Int, cs[j]? = some (.int .i64 n) ∧ IsI n := fun j hj => by
  have h1 := hg j hj
  rw [hone, Nat.mul_one] at h1
  have hx : xs[j]? = some (xs[j]'(by omega)) := List.getElem?_eq_getElem (by omega)
  rw [hx] at h1
  obtain ⟨n, hn, _, hw⟩ := DataW.trod_int Tryz.underlying3 h1
  have hcj : cs[j]? = some (.int .i64 n) := by
   have e : ((cs.drop j).take 1)[0]? = some (.int .i64 n) := by rw [hn]; rfl
   rw [List.getElem?_take_of_lt (by omega), List.getElem?_drop, Nat.add_zero] at e
   exact e
  exact ⟨n, hcj, isI_of_wf hw⟩
 obtain ⟨q, hq⟩ := choose_lt each
 exact ⟨q, hq⟩
end
def Quads (w : World) (v : Value) : Prop := ∃ (a : Option Addr) (n c : Nat) (q : Nat → Nat → Int), v = .slice a n c ∧ n ≤ c ∧ c ≤ 9223372036854775807 ∧ (a = none → c = 0) ∧ QAt w a n q
section
variable {H : Type} {enc : TypeId × Value → H} {W : World}
set_option maxRecDepth 100000 in
theorem open_quads {b0 : Nat} {v : Value} {d : DataW H} {p : List MemPlace} (hval : Value.okWide Tryz.prog W .any b0 22 v) (h : DataW.Trod enc Tryz.prog W 0 (fun _ => true) true 22 v d p) : Quads W v := by
  obtain ⟨a, n, c, rfl⟩ := okWide_slice Tryz.underlying22 hval
  obtain ⟨fuel, hf⟩ := h
  rcases open_slice Tryz.underlying22 hf with ⟨hcs, _⟩ | ⟨a', len, cap, m, k, D, Pl, hcs, hb, hl, hm, hmm, _, hx⟩
  · simp [Value.cells] at hcs
    obtain ⟨rfl, rfl, rfl⟩ := hcs
    exact ⟨none, 0, 0, fun _ _ => 0, rfl, by omega, by omega, fun _ => rfl, .inl rfl⟩
  · simp [Value.cells] at hcs
    obtain ⟨rfl, rfl, rfl⟩ := hcs
    unfold maxLen at hm
    rcases Nat.eq_zero_or_pos n with h0 | h0
    · exact ⟨_, _, _, fun _ _ => 0, rfl, by omega, by omega, (fun e => by cases e), .inl h0⟩
    · have h4 : Tryz.prog.cellsOf 26 = 4 := by kernel_rfl
      rw [h4] at hx
      simp only [if_true] at hmm
      subst hmm
      have each : ∀ i, i < n → ∃ q : Nat → Int, ∀ j, j < 4 → W.cell? (a'.add (i * 4 + j)) = some (.int .i64 (q j)) ∧ IsI (q j) := fun i hi => by
        obtain ⟨cs', hc1, hc2⟩ := hx i (by omega)
        obtain ⟨_, hcl, hat⟩ := World.cells?_some hc1
        obtain ⟨q, hq⟩ := ints_of_array Tryz.underlying26 hc2 hcl
        refine ⟨q, fun j hj => ⟨?_, (hq j hj).2⟩⟩
        rw [← Go.Deep.add_add, hat j hj]
        exact (hq j hj).1
      obtain ⟨q, hq⟩ := choose_lt each
      obtain ⟨b, off, spot⟩ := a'
      have hspot : spot = none := by have := World.cell?_spot (hq 0 h0 0 (by omega)).1; simpa [Addr.add] using this
      subst hspot
      refine ⟨_, _, _, q, rfl, by omega, by omega, (fun e => by cases e), .inr ⟨b, off, rfl, fun i hi j hj => ?_⟩⟩
      have := hq i hi j hj
      rw [add_plain, ← Nat.add_assoc] at this
      exact this
end
def IntAt (w : World) (a : Option Addr) (n : Nat) (q : Nat → Int) : Prop := n = 0 ∨ ∃ b off, a = some ⟨b, off, none⟩ ∧ ∀ i, i < n → w.cell? ⟨b, off + i, none⟩ = some (.int .i64 (q i)) ∧ IsI (q i)
def Four (v : Value) : Prop := ∃ q0 q1 q2 q3 : Int, v = .agg #[.int .i64 q0, .int .i64 q1, .int .i64 q2, .int .i64 q3] ∧ IsI q0 ∧ IsI q1 ∧ IsI q2 ∧ IsI q3
def Txt (v : Value) : Prop := ∃ s : ByteArray, v = .string s ∧ s.size ≤ 9223372036854775807
section
variable {H : Type} {enc : TypeId × Value → H} {W : World}
set_option maxRecDepth 100000 in
theorem open_four {b0 : Nat} {v : Value} {d : DataW H} {p : List MemPlace} (hval : Value.okWide Tryz.prog W .any b0 26 v) (h : DataW.Trod enc Tryz.prog W 0 (fun _ => true) true 26 v d p) : Four v := by
 have hu := Tryz.underlying26
 simp only [Value.okWide, hu] at hval
 obtain ⟨cs, rfl, hsz, _⟩ := hval
 have h2 : Tryz.prog.cellsOf 26 = 4 := by kernel_rfl
 obtain ⟨fuel, hf⟩ := h
 have hl : cs.toList.length = 4 := by rw [Array.length_toList, hsz, h2]
 obtain ⟨q, hq⟩ := ints_of_array hu hf (by simpa [Value.cells] using hl)
 obtain ⟨l⟩ := cs
 match l, hl with
 | [x0, x1, x2, x3], _ =>
  have e0 := hq 0 (by omega)
  have e1 := hq 1 (by omega)
  have e2 := hq 2 (by omega)
  have e3 := hq 3 (by omega)
  simp [Value.cells] at e0 e1 e2 e3
  exact ⟨q 0, q 1, q 2, q 3, by rw [e0.1, e1.1, e2.1, e3.1], e0.2, e1.2, e2.2, e3.2⟩
set_option maxRecDepth 100000 in
theorem open_text {b0 : Nat} {v : Value} {d : DataW H} {p : List MemPlace} (hval : Value.okWide Tryz.prog W .any b0 9 v) (h : DataW.Trod enc Tryz.prog W 0 (fun _ => true) true 9 v d p) : Txt v := by
 obtain ⟨s, rfl, _, _, hs⟩ := Go.ChangeMaps.open_string Tryz.underlying9 hval h
 exact ⟨s, rfl, T hs (by decide)⟩
end
end Go.Proofs.YtfmoabgjaclkpaaGreatDoor

namespace Go.Proofs.YtfmoabgjaclkpaaGreatDoor
set_option maxRecDepth 1000000
set_option maxHeartbeats 4000000
set_option synthInstance.maxHeartbeats 0
set_option synthInstance.maxSize 9999
open Go.RowKit
theorem SameRecords_r {w1 w2 : World} {a1 a2 : Option Addr} {n1 n2 : Nat} {l1 l2 : List Rec} {r : Bool} (c1 c2 : Nat) (w : World) (H1 : RecsAt w1 a1 n1 l1) (e1 : Ext w1 w) (H2 : RecsAt w2 a2 n2 l2) (e2 : Ext w2 w) (hr : decide (l1 = l2) = r) : Calls Tryz.prog 15 #[.slice a1 n1 c1, .slice a2 n2 c2] w fun e w' => e = .returned (.bool r) ∧ Ext w w' := hr ▸ SameRecords_c c1 c2 w H1 e1 H2 e2
namespace Rep
end Rep
end Go.Proofs.YtfmoabgjaclkpaaGreatDoor

namespace Go.Proofs.YtfmoabgjaclkpaaGreatDoor
namespace Rep
theorem more_miss {l1 l2 : List Rec} {x : Rec} (h : x ∈ more l1 l2) : findK l1 (x.c, x.n) = none := by
 unfold more at h
 rw [List.mem_filter, Bool.not_eq_true', Bool.eq_false_iff, Ne, hasK_iff] at h
 cases hf : findK l1 (x.c, x.n) with
 | none => rfl
 | some y => exact absurd ⟨y, (findK_some hf).1, (findK_some hf).2⟩ h.2
theorem more_sub {l1 l2 : List Rec} : ∀ x ∈ more l1 l2, x ∈ l2 := fun _x h => (List.mem_filter.1 h).1
structure Keep2 (a b : List Rec) (c d : Int) : Prop where
 m : mergeF c a d b = some (unionF a b)
 bh : behindF c a d b = some (more a b)
 z : behindF c (unionF a b) d b = some []
 k1 : keepsB (unionF a b) a = true
 k2 : keepsB (unionF a b) b = true
 k3 : keepsB b (more a b) = true
 len : (unionF a b).length = a.length + (more a b).length
 mi : ∀ x ∈ more a b, findK a (x.c, x.n) = none
 kd : keysD (unionF a b)
 kb : keysD b
theorem keep_merge {U a b : List Rec} (hU : keysD U) (h : In U a) (k : In U b) {c d : Int} (hc : 0 ≤ c ∧ c ≤ 15) (hd : 0 ≤ d ∧ d ≤ 15) (hn : U.length ≤ 80) : Keep2 a b c d := by
 have u := h.union hU k
 refine ⟨h.merge hU k hc hd hn, h.behind hU k hc hd hn, ?_, keeps_t fun x hx => (h.mem hU k).2 (.inl hx), keeps_t fun x hx => (h.mem hU k).2 (.inr hx), keeps_t more_sub, (h.uni hU k).len h.vd.srt k.vd.srt (h.cons hU k), fun x hx => more_miss hx, u.vd.keys, k.vd.keys⟩
 rw [u.behind hU k hc hd hn]
 congr 1
 refine List.eq_nil_iff_forall_not_mem.2 fun x hx => ?_
 obtain ⟨h1, h2⟩ := (mem_more (u.cons hU k)).1 hx
 exact h2 ((h.mem hU k).2 (.inr h1))
theorem Tri.keep {L : Nat → List Rec} (h : Tri 24 L) {i k : Nat} (hi : i < 3) (hk : k < 3) : Keep2 (L i) (L k) i k := by
 obtain ⟨U, hU, hUl, hUp, hIn⟩ := h.ex
 exact keep_merge hU (hIn i hi) (hIn k hk) (by omega) (by omega) (by omega)
end Rep
end Go.Proofs.YtfmoabgjaclkpaaGreatDoor

namespace Go.Proofs.YtfmoabgjaclkpaaGreatDoor
set_option maxRecDepth 1000000
set_option maxHeartbeats 4000000
set_option synthInstance.maxHeartbeats 0
set_option synthInstance.maxSize 9999
open Go.RowKit
end Go.Proofs.YtfmoabgjaclkpaaGreatDoor

namespace Go.Proofs.YtfmoabgjaclkpaaGreatDoor
namespace Rep
end Rep
end Go.Proofs.YtfmoabgjaclkpaaGreatDoor

namespace Go.Proofs.YtfmoabgjaclkpaaGreatDoor
set_option maxRecDepth 1000000
set_option maxHeartbeats 4000000
set_option synthInstance.maxHeartbeats 0
set_option synthInstance.maxSize 9999
open Go.RowKit
theorem RecsAt.lit {w : World} {O : Nat} {x : Rec} (h0 : BoxAt w O 0 (.int .i64 x.c)) (h1 : BoxAt w O 1 (.int .i64 x.n)) (h2 : BoxAt w O 2 (.int .i64 x.t)) (h3 : BoxAt w O 3 (.int .i64 x.o)) (h4 : BoxAt w O 4 (.int .i64 x.w)) (h5 : BoxAt w O 5 (.int .i64 x.k)) (h6 : BoxAt w O 6 (.string x.x)) : RecsAt w (some ⟨O, 0, none⟩) 1 [x] :=
 RecsW.at ⟨fun i y hy => by
  match i, hy with
  | 0, hy => cases hy; exact ⟨h0, h1, h2, h3, h4, h5, h6⟩
  | i + 1, hy => simp at hy⟩ rfl (by decide)
namespace Rep
theorem keysD.take {l : List Rec} (h : keysD l) (k : Nat) : keysD (l.take k) := List.Pairwise.sublist (List.take_sublist _ _) h
end Rep
end Go.Proofs.YtfmoabgjaclkpaaGreatDoor

namespace Go.Proofs.YtfmoabgjaclkpaaGreatDoor
namespace Rep
end Rep
end Go.Proofs.YtfmoabgjaclkpaaGreatDoor

namespace Go.Proofs.YtfmoabgjaclkpaaGreatDoor
set_option maxRecDepth 1000000
set_option maxHeartbeats 4000000
set_option synthInstance.maxHeartbeats 0
set_option synthInstance.maxSize 9999
open Go.RowKit
def BytW (w : World) (g n : Nat) : Prop := ∀ i, i < n → ∃ b : UInt8, BoxAt w g i (.int .u8 ((b.toNat : Nat) : Int))
theorem BytW.ext {w w' : World} {g n : Nat} (h : BytW w g n) (e : Ext w w') : BytW w' g n := fun i hi => by obtain ⟨b, hb⟩ := h i hi; exact ⟨b, BoxAt.ext e hb⟩
theorem BytW.set {w X : World} {g n p : Nat} {b : UInt8} (h : BytW w g n) (hv : BoxAt X g p (.int .u8 ((b.toNat : Nat) : Int))) (hk : ∀ i x, i ≠ p → BoxAt w g i x → BoxAt X g i x) : BytW X g n := fun i hi => by
 by_cases e : i = p
 · subst e; exact ⟨b, hv⟩
 · obtain ⟨c, hc⟩ := h i hi; exact ⟨c, hk i _ e hc⟩
end Go.Proofs.YtfmoabgjaclkpaaGreatDoor

namespace Go.Proofs.YtfmoabgjaclkpaaGreatDoor
namespace Rep
end Rep
end Go.Proofs.YtfmoabgjaclkpaaGreatDoor

namespace Go.Proofs.YtfmoabgjaclkpaaGreatDoor
set_option maxRecDepth 1000000
set_option maxHeartbeats 4000000
set_option synthInstance.maxHeartbeats 0
set_option synthInstance.maxSize 9999
open Go.RowKit
end Go.Proofs.YtfmoabgjaclkpaaGreatDoor

namespace Go.Proofs.YtfmoabgjaclkpaaGreatDoor
namespace Rep
def Has (a b : List Rec) : Prop := ∀ x ∈ b, x ∈ a
structure Now (U : List Rec) (L N : Nat → List Rec) : Prop where
 inn : ∀ j, j < 3 → In U (N j)
 has : ∀ j, j < 3 → Has (N j) (L j)
theorem Now.set {U : List Rec} (hU : keysD U) {L N : Nat → List Rec} (h : Now U L N) {a b : Nat} (ha : a < 3) (hb : b < 3) : Now U L (updL N a (unionF (N a) (N b))) := by
  refine ⟨fun j hj => ?_, fun j hj => ?_⟩
  · by_cases e : j = a
    · subst e; rw [updL_same]; exact (h.inn j hj).union hU (h.inn b hb)
    · rw [updL_ne e]; exact h.inn j hj
  · by_cases e : j = a
    · subst e; rw [updL_same]; exact fun x hx => ((h.inn j hj).mem hU (h.inn b hb)).2 (.inl (h.has j hj x hx))
    · rw [updL_ne e]; exact h.has j hj
structure All3 (U : List Rec) (L : Nat → List Rec) (A : List Rec) : Prop where
 kd : keysD U
 len : U.length ≤ 24
 inn : ∀ j, j < 3 → In U (L j)
 a : In U A
 all : Has A U
 mab : mergeF 0 (L 0) 1 (L 1) = some (unionF (L 0) (L 1))
 mba : mergeF 1 (L 1) 0 (L 0) = some (unionF (L 0) (L 1))
 mbc : mergeF 1 (L 1) 2 (L 2) = some (unionF (L 1) (L 2))
 ml : mergeF 0 (unionF (L 0) (L 1)) 2 (L 2) = some A
 mr : mergeF 0 (L 0) 1 (unionF (L 1) (L 2)) = some A
 mag : mergeF 0 A 1 (unionF (L 1) (L 2)) = some A
theorem Tri.all {L : Nat → List Rec} (h : Tri 24 L) : ∃ U A, All3 U L A := by
 obtain ⟨U, hU, hUl, hUp, hIn⟩ := h.ex
 have i0 := hIn 0 (by decide); have i1 := hIn 1 (by decide); have i2 := hIn 2 (by decide)
 have iab := i0.union hU i1; have ibc := i1.union hU i2; have iA := iab.union hU i2
 have n : U.length ≤ 80 := by omega
 have e1 : unionF (L 1) (L 0) = unionF (L 0) (L 1) := (i1.union hU i0).eq iab fun x => by rw [i1.mem hU i0, i0.mem hU i1]; exact or_comm
 have e2 : unionF (L 0) (unionF (L 1) (L 2)) = unionF (unionF (L 0) (L 1)) (L 2) := (i0.union hU ibc).eq iA fun x => by rw [i0.mem hU ibc, i1.mem hU i2, iab.mem hU i2, i0.mem hU i1]; exact or_assoc.symm
 have e3 : unionF (unionF (unionF (L 0) (L 1)) (L 2)) (unionF (L 1) (L 2)) = unionF (unionF (L 0) (L 1)) (L 2) := (iA.union hU ibc).eq iA fun x => by
  rw [iA.mem hU ibc, iab.mem hU i2, i0.mem hU i1, i1.mem hU i2]
  exact ⟨fun q => q.elim id fun q => q.elim (fun z => .inl (.inr z)) .inr, .inl⟩
 refine ⟨U, unionF (unionF (L 0) (L 1)) (L 2), hU, hUl, hIn, iA, fun x hx => ?_, i0.merge hU i1 (by omega) (by omega) n, by rw [← e1]; exact i1.merge hU i0 (by omega) (by omega) n, i1.merge hU i2 (by omega) (by omega) n, iab.merge hU i2 (by omega) (by omega) n, by rw [← e2]; exact i0.merge hU ibc (by omega) (by omega) n, (iA.merge hU ibc (c := 0) (d := 1) (by omega) (by omega) n).trans (by rw [e3])⟩
 obtain ⟨_, k, hk, _, q⟩ := hUp x hx
 rw [iab.mem hU i2, i0.mem hU i1]
 match k, hk, q with
 | 0, _, q => exact .inl (.inl q)
 | 1, _, q => exact .inl (.inr q)
 | 2, _, q => exact .inr q
 | k + 3, hk, _ => omega
theorem All3.start {U : List Rec} {L : Nat → List Rec} {A : List Rec} (h : All3 U L A) : Now U L L := ⟨h.inn, fun _ _ _ hx => hx⟩
theorem All3.merge {U : List Rec} {L N : Nat → List Rec} {A : List Rec} (h : All3 U L A) (hn : Now U L N) {a b : Nat} (ha : a < 3) (hb : b < 3) : mergeF a (N a) b (N b) = some (unionF (N a) (N b)) := (hn.inn a ha).merge h.kd (hn.inn b hb) (by omega) (by omega) (by have := h.len; omega)
end Rep
end Go.Proofs.YtfmoabgjaclkpaaGreatDoor

namespace Go.Proofs.YtfmoabgjaclkpaaGreatDoor
open Go.RowKit
abbrev Raw := Nat × Slc
def Raw.cells (x : Raw) : List Value := [.int .i64 ((x.1 : Nat) : Int), .slice x.2.1 x.2.2.1 x.2.2.2]
def rawR : Rep Raw where
 rel _ c x F := c = x.cells ∧ F = []
 keep := fun h _ => h
 lt := by rintro w c x F ⟨_, rfl⟩ b hb; cases hb
theorem rawT : ElemT Tryz.prog 28 25 (.agg #[.int .i64 0, .slice none 0 0]) 2 32 := ⟨Tryz.underlying28, by kernel_rfl, rfl, by decide⟩
def RawsB (w : World) (b o : Nat) (l : List Raw) : Prop := ∀ j x, l[j]? = some x → w.cell? ⟨b, o + j * 2, none⟩ = some (.int .i64 ((x.1 : Nat) : Int)) ∧ w.cell? ⟨b, o + j * 2 + 1, none⟩ = some (.slice x.2.1 x.2.2.1 x.2.2.2)
theorem RawsB.ext {w w' : World} {b o : Nat} {l : List Raw} (h : RawsB w b o l) (e : Ext w w') : RawsB w' b o l := fun j x hx => ⟨e.cell (h j x hx).1, e.cell (h j x hx).2⟩
def Now3 (w : World) (b : Nat) (R : List Raw) (N : Nat → List Rec) : Prop := R.length = 3 ∧ RawsB w b 0 R ∧ ∀ j, j < 3 → ∃ a n c, R[j]? = some (j, (a, n, c)) ∧ RecsAt w a n (N j) ∧ n ≤ c
theorem Now3.ext {w w' : World} {b : Nat} {R : List Raw} {N : Nat → List Rec} (h : Now3 w b R N) (e : Ext w w') : Now3 w' b R N := ⟨h.1, h.2.1.ext e, fun j hj => by
 obtain ⟨a, n, c, h1, h2, h3⟩ := h.2.2 j hj
 exact ⟨a, n, c, h1, h2.ext e, h3⟩⟩
theorem Now3.at {w : World} {b : Nat} {R : List Raw} {N : Nat → List Rec} (h : Now3 w b R N) {j : Nat} (hj : j < 3) : ∃ a n c, w.cell? ⟨b, j * 2, none⟩ = some (.int .i64 ((j : Nat) : Int)) ∧ w.cell? ⟨b, j * 2 + 1, none⟩ = some (.slice a n c) ∧ RecsAt w a n (N j) ∧ n ≤ c := by
 obtain ⟨a, n, c, h1, h2, h3⟩ := h.2.2 j hj
 have := h.2.1 j _ h1
 rw [Nat.zero_add] at this
 exact ⟨a, n, c, this.1, this.2, h2, h3⟩
theorem Now3.of {w : World} {B : Nat} {L : Nat → List Rec} (h : TriW w B L) : ∃ R, Now3 w B R L := by
  obtain ⟨a0, n0, c0, p0, q0, r0, s0, _⟩ := h 0 (by decide)
  obtain ⟨a1, n1, c1, p1, q1, r1, s1, _⟩ := h 1 (by decide)
  obtain ⟨a2, n2, c2, p2, q2, r2, s2, _⟩ := h 2 (by decide)
  refine ⟨[(0, (a0, n0, c0)), (1, (a1, n1, c1)), (2, (a2, n2, c2))], rfl, fun j x hx => ?_, fun j hj => ?_⟩
  · match j, hx with
    | 0, hx => cases hx; exact ⟨p0.1, q0.1⟩
    | 1, hx => cases hx; exact ⟨p1.1, q1.1⟩
    | 2, hx => cases hx; exact ⟨p2.1, q2.1⟩
    | _ + 3, hx => simp at hx
  · match j, hj with
    | 0, _ => exact ⟨_, _, _, rfl, r0, s0⟩
    | 1, _ => exact ⟨_, _, _, rfl, r1, s1⟩
    | 2, _ => exact ⟨_, _, _, rfl, r2, s2⟩
    | _ + 3, h => omega
theorem Now3.set {w : World} {b g : Nat} {R : List Raw} {N : Nat → List Rec} (h : Now3 w b R N) {k : Nat} (hk : k < 3) {a : Option Addr} {n c : Nat} {l : List Rec} (hl : RecsAt w a n l) (hc : n ≤ c) (hR : RawsB w g 0 (R.take k ++ [(k, (a, n, c))] ++ R.drop (k + 1))) : Now3 w g (R.take k ++ [(k, (a, n, c))] ++ R.drop (k + 1)) (Rep.updL N k l) := by
  have h3 := h.1
  refine ⟨by simp; omega, hR, fun j hj => ?_⟩
  have ht : (R.take k).length = k := by rw [List.length_take]; omega
  rcases Nat.lt_trichotomy j k with q | q | q
  · obtain ⟨a', n', c', h1, h2, h4⟩ := h.2.2 j hj
    rw [Rep.updL_ne (by omega)]
    refine ⟨a', n', c', ?_, h2, h4⟩
    rw [List.append_assoc, List.getElem?_append_left (by omega), List.getElem?_take_of_lt q]; exact h1
  · subst q
    rw [Rep.updL_same]
    refine ⟨a, n, c, ?_, hl, hc⟩
    rw [List.append_assoc, List.getElem?_append_right (by omega), ht, Nat.sub_self]; rfl
  · obtain ⟨a', n', c', h1, h2, h4⟩ := h.2.2 j hj
    rw [Rep.updL_ne (by omega)]
    refine ⟨a', n', c', ?_, h2, h4⟩
    rw [List.getElem?_append_right (by simp; omega), List.length_append, ht, List.length_singleton, List.getElem?_drop, show k + 1 + (j - (k + 1)) = j by omega]; exact h1
theorem RawsB.take {w : World} {b o : Nat} {l : List Raw} (h : RawsB w b o l) (k : Nat) : RawsB w b o (l.take k) := fun j x hx => h j x (by
 rw [List.getElem?_take] at hx
 split at hx
 · exact hx
 · cases hx)
theorem RawsB.drop {w : World} {b o : Nat} {l : List Raw} (h : RawsB w b o l) (k : Nat) : RawsB w b (o + k * 2) (l.drop k) := fun j x hx => by
 rw [List.getElem?_drop] at hx
 have := h (k + j) x hx
 rwa [show o + (k + j) * 2 = o + k * 2 + j * 2 by omega] at this
instance {w w' : World} {g : Nat} {R : List Raw} {N : Nat → List Rec} : MvC w w' (Now3 w g R N) (Now3 w' g R N) := ⟨fun e h => h.ext e⟩
end Go.Proofs.YtfmoabgjaclkpaaGreatDoor

namespace Go.Proofs.YtfmoabgjaclkpaaGreatDoor
open Go.ChangeShapes Go.WideShapes Go.ChangeAt Go.RowKit Go.Deep
structure RawAt (w : World) (a : Option Addr) (n : Nat) (l : List Rec) : Prop where
 len : l.length = n
 at_ : n = 0 ∨ ∃ b o, a = some ⟨b, o, none⟩ ∧ RecB w b o l
theorem RawAt.ext {w w' : World} {a : Option Addr} {n : Nat} {l : List Rec} (h : RawAt w a n l) (hE : Ext w w') : RawAt w' a n l := ⟨h.len, h.at_.imp id fun ⟨b, o, ha, hx⟩ => ⟨b, o, ha, hx.ext hE⟩⟩
theorem RawAt.parts {w : World} {a : Option Addr} {n : Nat} {l : List Rec} (h : RawAt w a n l) : ∃ b o, (0 < n → a = some ⟨b, o, none⟩) ∧ (0 < n → b < w.heap.size) ∧ RecB w b o l := by
 obtain ⟨h1, h3⟩ := h
 rcases h3 with h3 | ⟨b, o, ha, hx⟩
 · exact ⟨0, 0, fun h => by omega, fun h => by omega, ⟨fun i x hi => by have := (List.getElem?_eq_some_iff.1 hi).1; omega⟩⟩
 · exact ⟨b, o, fun _ => ha, fun h => World.block_lt_of_cell? _ _ (hx.r (i := 0) (by omega)).1, hx⟩
def Replica1 (w : World) (v : Value) : Prop := ∃ (c : Int) (a : Option Addr) (n k : Nat) (l : List Rec), v = .agg #[.int .i64 c, .slice a n k] ∧ n ≤ k ∧ k ≤ 9223372036854775807 ∧ RawAt w a n l
theorem choose_ltR {n : Nat} {p : Nat → Rec → Prop} (h : ∀ i, i < n → ∃ x, p i x) : ∃ f : Nat → Rec, ∀ i, i < n → p i (f i) := by
 refine ⟨fun i => if hi : i < n then Classical.choose (h i hi) else default, fun i hi => ?_⟩
 show p i (if hi : i < n then Classical.choose (h i hi) else default)
 rw [dif_pos hi]; exact Classical.choose_spec (h i hi)
section
variable {H : Type} {enc : TypeId × Value → H} {W : World}
set_option maxRecDepth 100000 in
theorem rec_of {fuel : Nat} {cs : List Value} {x : DataW H × List MemPlace} (h : DataW.trod enc Tryz.prog W 0 (fun _ => true) true fuel 49 cs = some x) : ∃ y : Rec, cs = y.enc := by
 obtain ⟨xs, n, _, _, hl, hxl, hg⟩ := DataW.trod_struct Tryz.underlying49 h
 have h1 : Tryz.prog.cellsOf 49 = 7 := by kernel_rfl
 have h3 : Tryz.prog.cellsOf 9 = 1 := by kernel_rfl
 have hone : Tryz.prog.cellsOf 3 = 1 := by kernel_rfl
 have hxl : xs.length = 7 := hxl
 have g0 := hg 0 _ rfl
 have g1 := hg 1 _ rfl
 have g2 := hg 2 _ rfl
 have g3 := hg 3 _ rfl
 have g4 := hg 4 _ rfl
 have g5 := hg 5 _ rfl
 have g6 := hg 6 _ rfl
 rw [List.getElem?_eq_getElem (show 0 < xs.length by omega)] at g0
 rw [List.getElem?_eq_getElem (show 1 < xs.length by omega)] at g1
 rw [List.getElem?_eq_getElem (show 2 < xs.length by omega)] at g2
 rw [List.getElem?_eq_getElem (show 3 < xs.length by omega)] at g3
 rw [List.getElem?_eq_getElem (show 4 < xs.length by omega)] at g4
 rw [List.getElem?_eq_getElem (show 5 < xs.length by omega)] at g5
 rw [List.getElem?_eq_getElem (show 6 < xs.length by omega)] at g6
 obtain ⟨a0, e0, _, _⟩ := DataW.trod_int Tryz.underlying3 g0
 obtain ⟨a1, e1, _, _⟩ := DataW.trod_int Tryz.underlying3 g1
 obtain ⟨a2, e2, _, _⟩ := DataW.trod_int Tryz.underlying3 g2
 obtain ⟨a3, e3, _, _⟩ := DataW.trod_int Tryz.underlying3 g3
 obtain ⟨a4, e4, _, _⟩ := DataW.trod_int Tryz.underlying3 g4
 obtain ⟨a5, e5, _, _⟩ := DataW.trod_int Tryz.underlying3 g5
 obtain ⟨s, e6, _⟩ := DataW.trod_string Tryz.underlying9 g6
 rw [h1] at hl
 match cs, hl with
 | [x0, x1, x2, x3, x4, x5, x6], _ =>
  have q0 : x0 = .int .i64 a0 := by simpa [hone] using e0
  have q1 : x1 = .int .i64 a1 := by simpa [hone] using e1
  have q2 : x2 = .int .i64 a2 := by simpa [hone] using e2
  have q3 : x3 = .int .i64 a3 := by simpa [hone] using e3
  have q4 : x4 = .int .i64 a4 := by simpa [hone] using e4
  have q5 : x5 = .int .i64 a5 := by simpa [hone] using e5
  have q6 : x6 = .string s := by simpa [hone, h3] using e6
  exact ⟨⟨a0, a1, a2, a3, a4, a5, s⟩, by rw [q0, q1, q2, q3, q4, q5, q6]; rfl⟩
set_option maxRecDepth 100000 in
theorem recs_of {fuel : Nat} {cs0 : List Value} {x : DataW H × List MemPlace} (hf : DataW.trod enc Tryz.prog W 0 (fun _ => true) true fuel 23 cs0 = some x) :
    ∃ (a : Option Addr) (n c : Nat) (l : List Rec), cs0 = [.slice a n c] ∧ n ≤ c ∧ c ≤ 9223372036854775807 ∧ RawAt W a n l := by
  rcases open_slice Tryz.underlying23 hf with ⟨hcs, _⟩ | ⟨a', len, cap, m, k, D, Pl, hcs, hb, hl, hm, hmm, _, hx⟩
  · exact ⟨none, 0, 0, [], hcs, by omega, by omega, rfl, .inl rfl⟩
  · unfold maxLen at hm
    rcases Nat.eq_zero_or_pos len with h0 | h0
    · subst h0; exact ⟨_, _, _, [], hcs, by omega, by omega, rfl, .inl rfl⟩
    · have h4 : Tryz.prog.cellsOf 49 = 7 := by kernel_rfl
      rw [h4] at hx
      simp only [if_true] at hmm
      subst hmm
      have each : ∀ i, i < len → ∃ y : Rec, ∀ j u, j < 7 → y.enc[j]? = some u → W.cell? (a'.add (i * 7 + j)) = some u := fun i hi => by
        obtain ⟨cs', hc1, hc2⟩ := hx i (by omega)
        obtain ⟨_, hcl, hat⟩ := World.cells?_some hc1
        obtain ⟨y, rfl⟩ := rec_of hc2
        refine ⟨y, fun j u hj hu => ?_⟩
        rw [← Go.Deep.add_add, hat j hj]
        exact hu
      obtain ⟨q, hq⟩ := choose_ltR each
      obtain ⟨b, off, spot⟩ := a'
      have hspot : spot = none := by have := World.cell?_spot (hq 0 h0 0 _ (by omega) rfl); simpa [Addr.add] using this
      subst hspot
      refine ⟨_, len, _, (List.range len).map q, hcs, by omega, by omega, by simp, .inr ⟨b, off, rfl, ⟨fun i s hs => ?_⟩⟩⟩
      obtain ⟨hi, e⟩ := List.getElem?_eq_some_iff.1 hs
      have hi' : i < len := by simpa using hi
      have e' : q i = s := by simpa using e
      subst e'
      have k : ∀ j u, j < 7 → (q i).enc[j]? = some u → W.cell? ⟨b, off + i * 7 + j, none⟩ = some u := fun j u hj hu => by
        have := hq i hi' j u hj hu
        rw [add_plain, ← Nat.add_assoc] at this
        exact this
      exact ⟨k 0 _ (by omega) rfl, k 1 _ (by omega) rfl, k 2 _ (by omega) rfl, k 3 _ (by omega) rfl, k 4 _ (by omega) rfl, k 5 _ (by omega) rfl, k 6 _ (by omega) rfl⟩
set_option maxRecDepth 100000 in
theorem open_replica {b0 : Nat} {v : Value} {d : DataW H} {p : List MemPlace} (hval : Value.okWide Tryz.prog W .any b0 25 v) (h : DataW.Trod enc Tryz.prog W 0 (fun _ => true) true 25 v d p) : Replica1 W v := by
 obtain ⟨cs, rfl, hsz⟩ := okWide_struct Tryz.underlying25 hval
 obtain ⟨fuel, hf⟩ := h
 obtain ⟨y0, y1, n, _, hl, hf0, hf1⟩ := Go.ChangeShapes.trod_struct2 Tryz.underlying25 hf
 have h1 : Tryz.prog.cellsOf 25 = 2 := by kernel_rfl
 have h3 : Tryz.prog.cellsOf 23 = 1 := by kernel_rfl
 have hone : Tryz.prog.cellsOf 3 = 1 := by kernel_rfl
 obtain ⟨a0, e0, _, _⟩ := DataW.trod_int Tryz.underlying3 hf0
 obtain ⟨a, m, c, l, e1, q1, q2, hs⟩ := recs_of hf1
 rw [h1] at hl
 refine ⟨a0, a, m, c, l, ?_, q1, q2, hs⟩
 have hl' : cs.toList.length = 2 := by simpa [Value.cells] using hl
 obtain ⟨L⟩ := cs
 match L, hl' with
 | [u, v], _ =>
  have k0 : u = .int .i64 a0 := by simpa [hone, Value.cells] using e0
  have k1 : v = .slice a m c := by simpa [hone, h3, Value.cells] using e1
  rw [k0, k1]
end
namespace Rep
def cut20 (x : Rec) : Rec := ⟨x.c, x.n, x.t, x.o, x.w, x.k, x.x.extract 0 (min x.x.size 20)⟩
def fewL (l : List Rec) : List Rec := (l.take 6).map cut20
def fewN (l : List Rec) (i : Nat) : List Rec := (l.take i).map cut20
theorem few_snoc {l : List Rec} {i : Nat} (h : i < l.length) : fewN l (i + 1) = fewN l i ++ [cut20 (recN l i)] := by unfold fewN; rw [recN_take h, List.map_append]; rfl
theorem few_len {l : List Rec} {i : Nat} (h : i ≤ l.length) : (fewN l i).length = i := by unfold fewN; rw [List.length_map, List.length_take]; omega
theorem few_end {l : List Rec} {i : Nat} (h : i ≤ l.length) (h6 : i ≤ 6) (hq : ¬ (i < l.length ∧ i < 6)) : fewN l i = fewL l := by
  unfold fewN fewL
  rcases Nat.lt_or_ge i 6 with q | q
  · rw [List.take_of_length_le (by omega), List.take_of_length_le (by omega)]
  · obtain rfl : i = 6 := by omega
    rfl
end Rep
structure FourW (w : World) (B : Nat) (C : Nat → Int) (L : Nat → List Rec) : Prop where
 at_ : ∀ j, j < 4 → ∃ a n c, w.cell? ⟨B, j * 2, none⟩ = some (.int .i64 (C j)) ∧ w.cell? ⟨B, j * 2 + 1, none⟩ = some (.slice a n c) ∧ RecsAt w a n (L j) ∧ n ≤ c
theorem FourW.ext {w w' : World} {B : Nat} {C : Nat → Int} {L : Nat → List Rec} (h : FourW w B C L) (e : Ext w w') : FourW w' B C L := ⟨fun j hj => by
 obtain ⟨a, n, c, h1, h2, h3, h4⟩ := h.at_ j hj
 exact ⟨a, n, c, e.cell h1, e.cell h2, h3.ext e, h4⟩⟩
theorem app_four {w : World} {B O : Nat} {LL : Nat → List Rec} {cr : Int} {ar : Option Addr} {nr kr : Nat} {lr : List Rec} (hT : TriW w B LL) (h0 : w.cell? ⟨O, 0, none⟩ = some (.int .i64 cr)) (h1 : w.cell? ⟨O, 1, none⟩ = some (.slice ar nr kr)) (hr : RecsAt w ar nr lr) (hk : nr ≤ kr) :
    ∃ g cap C L w', (Builtin.append_ #[28, 28] 28 #[.slice (some ⟨B, 0, none⟩) 3 3, .slice (some ⟨O, 0, none⟩) 1 1]).run Tryz.prog w = .ok (.slice (some ⟨g, 0, none⟩) 4 cap) w' ∧ w.heap.size ≤ g ∧ g < w'.heap.size ∧ FourW w' g C L ∧ Ext w w' := by
  obtain ⟨i, hi, hz0, hz1, hz2⟩ := info_parts (rawT).info
  obtain ⟨a0, n0, c0, p0, q0, r0, s0, _⟩ := hT 0 (by decide)
  obtain ⟨a1, n1, c1, p1, q1, r1, s1, _⟩ := hT 1 (by decide)
  obtain ⟨a2, n2, c2, p2, q2, r2, s2, _⟩ := hT 2 (by decide)
  obtain ⟨v', w', hrun, hown, hg⟩ := run_append_arg_grows (P := Tryz.prog) w 28 28 25 i _ 2 32 (rawT).under hi hz0 hz1 hz2 (rawT).zs (rawT).pos ⟨B, 0, none⟩ 3 3 [.int .i64 0, .slice a0 n0 c0, .int .i64 1, .slice a1 n1 c1, .int .i64 2, .slice a2 n2 c2] rfl (fun j u h => by
    rw [Addr.add_lit, Nat.zero_add]
    match j, h with
    | 0, h => cases h; exact p0.1
    | 1, h => cases h; exact q0.1
    | 2, h => cases h; exact p1.1
    | 3, h => cases h; exact q1.1
    | 4, h => cases h; exact p2.1
    | 5, h => cases h; exact q2.1
    | _ + 6, h => simp at h) ⟨O, 0, none⟩ 1 1 [.int .i64 cr, .slice ar nr kr] rfl (fun j u h => by
    rw [Addr.add_lit, Nat.zero_add]
    match j, h with
    | 0, h => cases h; exact h0
    | 1, h => cases h; exact h1
    | _ + 2, h => simp at h) (by decide) (by unfold maxLen; decide) (by decide)
  have hE : Ext w w' := ⟨hg.os, hg.tape, hg.output, hg.size, fun k hk => hg.block k hk (fun e => by cases e)⟩
  rcases hown.2 with ⟨q, z⟩ | ⟨g, cap, cur, q, hgb, hcu, hcap, _⟩
  · omega
  · subst q
    have hcell := hown.cellAt
    have hc : ∀ j, j < 8 → w'.cell? ⟨g, j, none⟩ = [Value.int .i64 0, .slice a0 n0 c0, .int .i64 1, .slice a1 n1 c1, .int .i64 2, .slice a2 n2 c2, .int .i64 cr, .slice ar nr kr][j]? := fun j hj => hcell j (by simpa using hj)
    refine ⟨g, cap, fun j => if j < 3 then (j : Int) else cr, fun j => if j < 3 then LL j else lr, w', hrun, hgb, (World.block_lt_of_cell? _ _ (hc 0 (by decide))), ⟨fun j hj => ?_⟩, hE⟩
    match j, hj with
    | 0, _ => exact ⟨a0, n0, c0, hc 0 (by decide), hc 1 (by decide), r0.ext hE, s0⟩
    | 1, _ => exact ⟨a1, n1, c1, hc 2 (by decide), hc 3 (by decide), r1.ext hE, s1⟩
    | 2, _ => exact ⟨a2, n2, c2, hc 4 (by decide), hc 5 (by decide), r2.ext hE, s2⟩
    | 3, _ => exact ⟨ar, nr, kr, hc 6 (by decide), hc 7 (by decide), hr.ext hE, hk⟩
    | _ + 4, h => omega
def oC (c : Int) (o : Option (List Rec)) : Int := match o with | some _ => c | none => 0
def oL (o : Option (List Rec)) : List Rec := match o with | some l => l | none => []
def oE {α : Type} (o : Option α) : Int := match o with | some _ => 0 | none => 350
def oS (x : Rec) : ByteArray := match Rep.okR x with | true => Rep.encR x | false => ⟨#[]⟩
def bE (b : Bool) : Int := match b with | true => 0 | false => 350
def oD (o : Option Rec) : Rec := match o with | some x => x | none => Rec.zero
theorem OptR.t {lo : Nat} {w' : World} {c : Int} {o : Option (List Rec)} {c' : Int} {a' : Option Addr} {n' k' : Nat} {er : Int} (h : OptR lo w' c o c' a' n' k' er) : c' = oC c o ∧ er = oE o ∧ RecsAt w' a' n' (oL o) ∧ n' ≤ k' := by
 cases o with
 | some l => obtain ⟨h1, h2, h3, h4, _⟩ := h.y; exact ⟨h2, h1, h3, h4⟩
 | none => obtain ⟨h1, h2, rfl, rfl, rfl⟩ := h.n; exact ⟨h2, h1, RecsAt.nil _, Nat.le_refl _⟩
theorem OptL.t {w' : World} {o : Option (List Rec)} {a' : Option Addr} {n' k' : Nat} {er : Int} (h : OptL w' o a' n' k' er) : er = oE o ∧ RecsAt w' a' n' (oL o) ∧ n' ≤ k' := by
 cases o with
 | some l => exact h.y
 | none => obtain ⟨h1, rfl, rfl, rfl⟩ := h.n; exact ⟨h1, RecsAt.nil _, Nat.le_refl _⟩
def newO (c : Int) : Option (List Rec) := if 0 ≤ c ∧ c ≤ 15 then some [] else none
section
variable {w0 w1 w2 : World} {c c1 c2 cc nn tt kk : Int} {a a1 a2 : Option Addr} {n n1 n2 k : Nat} {l l1 l2 : List Rec} {xx : ByteArray}
theorem New_t (w : World) (hRl : RootAt w) : Calls Tryz.prog 33 #[.int .i64 c] w fun e w' => e = .returned (.tuple #[.agg #[.int .i64 (oC c (newO c)), .slice none 0 0], .int .i64 (oE (newO c))]) ∧ Ext w w' := by
 unfold newO
 by_cases h : 0 ≤ c ∧ c ≤ 15
 · rw [if_pos h]; exact New_y w h hRl
 · rw [if_neg h]; exact New_n w h hRl
theorem rNew_t (w : World) : Calls Tryz.prog 34 #[.int .i64 c] w fun e w' => e = .returned (.tuple #[.agg #[.int .i64 (oC c (newO c)), .slice none 0 0], .int .i64 (oE (newO c))]) ∧ Ext w w' := by
 unfold newO
 by_cases h : 0 ≤ c ∧ c ≤ 15
 · rw [if_pos h]; exact rNew_y w h
 · rw [if_neg h]; exact rNew_n w h
theorem Add_t (w : World) (H : RecsAt w0 a n l) (e0 : Ext w0 w) (hRl : RootAt w) : Calls Tryz.prog 18 #[.agg #[.int .i64 c, .slice a n k], .int .i64 tt, .int .i64 kk, .string xx] w fun e w' => ∃ a' n' k', e = .returned (.tuple #[.agg #[.int .i64 (oC c (Rep.addF c l ⟨0, 0, tt, -1, 0, kk, xx⟩)), .slice a' n' k'], .int .i64 (oE (Rep.addF c l ⟨0, 0, tt, -1, 0, kk, xx⟩))]) ∧ RecsAt w' a' n' (oL (Rep.addF c l ⟨0, 0, tt, -1, 0, kk, xx⟩)) ∧ n' ≤ k' ∧ Ext w w' :=
 (Add_o k tt kk xx w H e0 hRl).mono fun _ _ ⟨_, a', n', k', _, he, hO, hE⟩ => by
  obtain ⟨rfl, rfl, h3, h4⟩ := hO.t
  exact ⟨a', n', k', he, h3, h4, hE⟩
theorem rAdd_t (w : World) (H : RecsAt w0 a n l) (e0 : Ext w0 w) (hk : n ≤ k) : Calls Tryz.prog 19 #[.agg #[.int .i64 c, .slice a n k], .int .i64 tt, .int .i64 kk, .string xx] w fun e w' => ∃ a' n' k', e = .returned (.tuple #[.agg #[.int .i64 (oC c (Rep.addF c l ⟨0, 0, tt, -1, 0, kk, xx⟩)), .slice a' n' k'], .int .i64 (oE (Rep.addF c l ⟨0, 0, tt, -1, 0, kk, xx⟩))]) ∧ RecsAt w' a' n' (oL (Rep.addF c l ⟨0, 0, tt, -1, 0, kk, xx⟩)) ∧ n' ≤ k' ∧ Ext w w' :=
 (rAdd_o tt kk xx w H e0 hk).mono fun _ _ ⟨_, a', n', k', _, he, hO, hE⟩ => by
  obtain ⟨rfl, rfl, h3, h4⟩ := hO.t
  exact ⟨a', n', k', he, h3, h4, hE⟩
theorem Correct_t (w : World) (H : RecsAt w0 a n l) (e0 : Ext w0 w) (hRl : RootAt w) : Calls Tryz.prog 22 #[.agg #[.int .i64 c, .slice a n k], .int .i64 tt, .int .i64 cc, .int .i64 nn, .int .i64 kk, .string xx] w fun e w' => ∃ a' n' k', e = .returned (.tuple #[.agg #[.int .i64 (oC c (Rep.corrF c l ⟨0, 0, tt, cc, nn, kk, xx⟩)), .slice a' n' k'], .int .i64 (oE (Rep.corrF c l ⟨0, 0, tt, cc, nn, kk, xx⟩))]) ∧ RecsAt w' a' n' (oL (Rep.corrF c l ⟨0, 0, tt, cc, nn, kk, xx⟩)) ∧ n' ≤ k' ∧ Ext w w' :=
 (Correct_o k tt cc nn kk xx w H e0 hRl).mono fun _ _ ⟨_, a', n', k', _, he, hO, hE⟩ => by
  obtain ⟨rfl, rfl, h3, h4⟩ := hO.t
  exact ⟨a', n', k', he, h3, h4, hE⟩
theorem rCorrect_t (w : World) (H : RecsAt w0 a n l) (e0 : Ext w0 w) (hk : n ≤ k) : Calls Tryz.prog 23 #[.agg #[.int .i64 c, .slice a n k], .int .i64 tt, .int .i64 cc, .int .i64 nn, .int .i64 kk, .string xx] w fun e w' => ∃ a' n' k', e = .returned (.tuple #[.agg #[.int .i64 (oC c (Rep.corrF c l ⟨0, 0, tt, cc, nn, kk, xx⟩)), .slice a' n' k'], .int .i64 (oE (Rep.corrF c l ⟨0, 0, tt, cc, nn, kk, xx⟩))]) ∧ RecsAt w' a' n' (oL (Rep.corrF c l ⟨0, 0, tt, cc, nn, kk, xx⟩)) ∧ n' ≤ k' ∧ Ext w w' :=
 (rCorrect_o tt cc nn kk xx w H e0 hk).mono fun _ _ ⟨_, a', n', k', _, he, hO, hE⟩ => by
  obtain ⟨rfl, rfl, h3, h4⟩ := hO.t
  exact ⟨a', n', k', he, h3, h4, hE⟩
variable {k1 k2 : Nat}
theorem Merge_t (w : World) (H1 : RecsAt w1 a1 n1 l1) (e1 : Ext w1 w) (H2 : RecsAt w2 a2 n2 l2) (e2 : Ext w2 w) (hRl : RootAt w) : Calls Tryz.prog 26 #[.agg #[.int .i64 c1, .slice a1 n1 k1], .agg #[.int .i64 c2, .slice a2 n2 k2]] w fun e w' => ∃ a' n' k', e = .returned (.tuple #[.agg #[.int .i64 (oC c1 (Rep.mergeF c1 l1 c2 l2)), .slice a' n' k'], .int .i64 (oE (Rep.mergeF c1 l1 c2 l2))]) ∧ RecsAt w' a' n' (oL (Rep.mergeF c1 l1 c2 l2)) ∧ n' ≤ k' ∧ Ext w w' :=
 (Merge_o k1 k2 w H1 e1 H2 e2 hRl).mono fun _ _ ⟨_, a', n', k', _, he, hO, hE⟩ => by
  obtain ⟨rfl, rfl, h3, h4⟩ := hO.t
  exact ⟨a', n', k', he, h3, h4, hE⟩
theorem rMerge_t (w : World) (H1 : RecsAt w1 a1 n1 l1) (e1 : Ext w1 w) (H2 : RecsAt w2 a2 n2 l2) (e2 : Ext w2 w) : Calls Tryz.prog 27 #[.agg #[.int .i64 c1, .slice a1 n1 k1], .agg #[.int .i64 c2, .slice a2 n2 k2]] w fun e w' => ∃ a' n' k', e = .returned (.tuple #[.agg #[.int .i64 (oC c1 (Rep.mergeF c1 l1 c2 l2)), .slice a' n' k'], .int .i64 (oE (Rep.mergeF c1 l1 c2 l2))]) ∧ RecsAt w' a' n' (oL (Rep.mergeF c1 l1 c2 l2)) ∧ n' ≤ k' ∧ Ext w w' :=
 (rMerge_o k1 k2 w H1 e1 H2 e2).mono fun _ _ ⟨_, a', n', k', _, he, hO, hE⟩ => by
  obtain ⟨rfl, rfl, h3, h4⟩ := hO.t
  exact ⟨a', n', k', he, h3, h4, hE⟩
theorem Behind_t (w : World) (H1 : RecsAt w1 a1 n1 l1) (e1 : Ext w1 w) (H2 : RecsAt w2 a2 n2 l2) (e2 : Ext w2 w) (hRl : RootAt w) : Calls Tryz.prog 28 #[.agg #[.int .i64 c1, .slice a1 n1 k1], .agg #[.int .i64 c2, .slice a2 n2 k2]] w fun e w' => ∃ a' n' k', e = .returned (.tuple #[.slice a' n' k', .int .i64 (oE (Rep.behindF c1 l1 c2 l2))]) ∧ RecsAt w' a' n' (oL (Rep.behindF c1 l1 c2 l2)) ∧ n' ≤ k' ∧ Ext w w' :=
 (Behind_c k1 k2 w H1 e1 H2 e2 hRl).mono fun _ _ ⟨a', n', k', _, he, hO, hE⟩ => by
  obtain ⟨rfl, h3, h4⟩ := hO.t
  exact ⟨a', n', k', he, h3, h4, hE⟩
theorem rBehind_t (w : World) (H1 : RecsAt w1 a1 n1 l1) (e1 : Ext w1 w) (H2 : RecsAt w2 a2 n2 l2) (e2 : Ext w2 w) : Calls Tryz.prog 29 #[.agg #[.int .i64 c1, .slice a1 n1 k1], .agg #[.int .i64 c2, .slice a2 n2 k2]] w fun e w' => ∃ a' n' k', e = .returned (.tuple #[.slice a' n' k', .int .i64 (oE (Rep.behindF c1 l1 c2 l2))]) ∧ RecsAt w' a' n' (oL (Rep.behindF c1 l1 c2 l2)) ∧ n' ≤ k' ∧ Ext w w' :=
 (rBehind_c k1 k2 w H1 e1 H2 e2).mono fun _ _ ⟨a', n', k', _, he, hO, hE⟩ => by
  obtain ⟨rfl, h3, h4⟩ := hO.t
  exact ⟨a', n', k', he, h3, h4, hE⟩
theorem Fold_t (w : World) (H : RecsAt w0 a n l) (e0 : Ext w0 w) (hRl : RootAt w) : Calls Tryz.prog 13 #[.agg #[.int .i64 c, .slice a n k]] w fun e w' => ∃ a' n' k', e = .returned (.tuple #[.slice a' n' k', .int .i64 (oE (Rep.foldO c l))]) ∧ RecsAt w' a' n' (oL (Rep.foldO c l)) ∧ n' ≤ k' ∧ Ext w w' :=
 (Fold_c k w H e0 hRl).mono fun _ _ ⟨a', n', k', _, he, hO, hE⟩ => by
  obtain ⟨rfl, h3, h4⟩ := hO.t
  exact ⟨a', n', k', he, h3, h4, hE⟩
theorem rFold_t (w : World) (H : RecsAt w0 a n l) (e0 : Ext w0 w) : Calls Tryz.prog 14 #[.agg #[.int .i64 c, .slice a n k]] w fun e w' => ∃ a' n' k', e = .returned (.tuple #[.slice a' n' k', .int .i64 (oE (Rep.foldO c l))]) ∧ RecsAt w' a' n' (oL (Rep.foldO c l)) ∧ n' ≤ k' ∧ Ext w w' :=
 (rFold_c k w H e0).mono fun _ _ ⟨a', n', k', _, he, hO, hE⟩ => by
  obtain ⟨rfl, h3, h4⟩ := hO.t
  exact ⟨a', n', k', he, h3, h4, hE⟩
theorem History_t (w : World) (H : RecsAt w0 a n l) (e0 : Ext w0 w) (hRl : RootAt w) : Calls Tryz.prog 24 #[.agg #[.int .i64 c, .slice a n k], .int .i64 cc, .int .i64 nn] w fun e w' => ∃ a' n' k', e = .returned (.tuple #[.slice a' n' k', .int .i64 (oE (Rep.histO c l (cc, nn)))]) ∧ RecsAt w' a' n' (oL (Rep.histO c l (cc, nn))) ∧ n' ≤ k' ∧ Ext w w' :=
 (History_c k cc nn w H e0 hRl).mono fun _ _ ⟨a', n', k', _, he, hO, hE⟩ => by
  obtain ⟨rfl, h3, h4⟩ := hO.t
  exact ⟨a', n', k', he, h3, h4, hE⟩
theorem rHistory_t (w : World) (H : RecsAt w0 a n l) (e0 : Ext w0 w) : Calls Tryz.prog 25 #[.agg #[.int .i64 c, .slice a n k], .int .i64 cc, .int .i64 nn] w fun e w' => ∃ a' n' k', e = .returned (.tuple #[.slice a' n' k', .int .i64 (oE (Rep.histO c l (cc, nn)))]) ∧ RecsAt w' a' n' (oL (Rep.histO c l (cc, nn))) ∧ n' ≤ k' ∧ Ext w w' :=
 (rHistory_c k w H e0).mono fun _ _ ⟨a', n', k', _, he, hO, hE⟩ => by
  obtain ⟨rfl, h3, h4⟩ := hO.t
  exact ⟨a', n', k', he, h3, h4, hE⟩
variable {x : Rec} {s : ByteArray}
theorem enc_t {s : ByteArray} {er : Int} (h : (Rep.okR x = true ∧ s = Rep.encR x ∧ er = 0) ∨ (Rep.okR x = false ∧ s = ⟨#[]⟩ ∧ er = 350)) : s = oS x ∧ er = bE (Rep.okR x) := by
 unfold oS bE
 rcases h with ⟨h1, h2, h3⟩ | ⟨h1, h2, h3⟩ <;> rw [h1] <;> exact ⟨h2, h3⟩
theorem Encode_t (w : World) (hRl : RootAt w) : Calls Tryz.prog 31 #[rvv x] w fun e w' => e = .returned (.tuple #[.string (oS x), .int .i64 (bE (Rep.okR x))]) ∧ Ext w w' :=
 (Encode_c w hRl).mono fun _ _ ⟨_, _, he, hO, hE⟩ => by
  obtain ⟨rfl, rfl⟩ := enc_t hO
  exact ⟨he, hE⟩
theorem rEncode_t (w : World) : Calls Tryz.prog 32 #[rvv x] w fun e w' => e = .returned (.tuple #[.string (oS x), .int .i64 (bE (Rep.okR x))]) ∧ Ext w w' :=
 (rEncode_c w).mono fun _ _ ⟨_, _, he, hO, hE⟩ => by
  obtain ⟨rfl, rfl⟩ := enc_t hO
  exact ⟨he, hE⟩
theorem OptD.t {o : Option Rec} {x : Rec} {er : Int} (h : OptD o x er) : x = oD o ∧ er = oE o := by
 cases o with
 | some y => obtain ⟨h1, h2⟩ := h; exact ⟨h1, h2⟩
 | none => obtain ⟨h1, h2⟩ := h; exact ⟨h1, h2⟩
theorem Decode_t (w : World) (hs : s.size ≤ 1000000) (hRl : RootAt w) : Calls Tryz.prog 35 #[.string s] w fun e w' => e = .returned (.tuple #[rvv (oD (Rep.decR s)), .int .i64 (oE (Rep.decR s))]) ∧ Ext w w' :=
 (Decode_c w hs hRl).mono fun _ _ ⟨_, _, he, hO, hE⟩ => by
  obtain ⟨rfl, rfl⟩ := hO.t
  exact ⟨he, hE⟩
theorem rDecode_t (w : World) (hs : s.size ≤ 1000000) : Calls Tryz.prog 36 #[.string s] w fun e w' => e = .returned (.tuple #[rvv (oD (Rep.decR s)), .int .i64 (oE (Rep.decR s))]) ∧ Ext w w' :=
 (rDecode_c w hs).mono fun _ _ ⟨_, _, he, hO, hE⟩ => by
  obtain ⟨rfl, rfl⟩ := hO.t
  exact ⟨he, hE⟩
end
instance {w w' : World} {B : Nat} {C : Nat → Int} {L : Nat → List Rec} : MvC w w' (FourW w B C L) (FourW w' B C L) := ⟨fun e h => h.ext e⟩
end Go.Proofs.YtfmoabgjaclkpaaGreatDoor

namespace Go.Proofs.YtfmoabgjaclkpaaGreatDoor
set_option maxRecDepth 1000000
set_option maxHeartbeats 4000000
set_option synthInstance.maxHeartbeats 0
set_option synthInstance.maxSize 9999
open Go.RowKit
theorem few_c {w0 : World} {c : Int} {a : Option Addr} {n k : Nat} {l : List Rec} (w : World) (H : RawAt w0 a n l) (e0 : Ext w0 w) (hn : n ≤ 9223372036854775807) : Calls Tryz.prog 12 #[.agg #[iv c, .slice a n k]] w fun e w' => ∃ a' n' k', e = .returned (.agg #[iv c, .slice a' n' k']) ∧ RecsAt w' a' n' (Rep.fewL l) ∧ n' ≤ k' ∧ Ext w w' := by
 replace H := H.ext e0;clear e0;obtain ⟨b, o, ha, hbr, hx⟩ := H.parts;have hln := H.len;refine calls_cw 40 [(0, .agg #[iv c, .slice a n k])] Tryz.func12 rfl Tryz.ntmps12 (by kernel_rfl) (by kernel_rfl) (fun L => ?_);have hE := Ext.refl w;refine zc (zp (pS (sw 25 #[iv c, .slice a n k] ?_)));intro O1 X2 Dm Dk hb hbx;have ⟨C4, Bq⟩ := bq2 hbx;replace hE := hE.trans hb;have Co := hb.size;have D7 := C4.lt;refine pS (sw 25 #[iv 0, .slice none 0 0] ?_);intro O5 X6 Ci Dl hb hbx;have ⟨Cf, Ck⟩ := bq2 hbx;refine mv3 hb hE C4 Bq fun hE C4 Bq=>?_;have Ct := hb.size;have Cq := Cf.lt;refine pl_nil (qw_then ?_);refine cw_seq ?_;have Bn := Ext.refl X6;refine zp (pT (pw O1 0) ?_);refine pU (iv c) (xl (ld3 (C4.1))) ?_;refine pT (.agg #[iv c, .slice none 0 0]) ?_;refine pS (sw 25 #[iv 0, .slice none 0 0] ?_);intro Ce Da Br D4 hb hbx;have ⟨B0, Bo⟩ := bq2 hbx;refine mv2 hb hE Bn fun hE Bn=>?_;have C7 := hb.size;have C5 := B0.lt;refine pP (sn_set2 (O := Ce) (j := 0) (v := iv c) (v' := .slice none 0 0) (xt (pw Ce 0) (.agg #[iv c, .slice none 0 0]) (st25 B0.1 B0.2 Bo.1 Bo.2)) B0 Bo ?_);intro Cu ho B0 Bo hk;replace hE := ho.ext hE (T (T Co Ct) (Nat.le_of_eq Br));replace Bn := ho.ext Bn (Nat.le_of_eq Br);have Bg := Nat.le_of_eq ho.size.symm;clear ho hk;refine zn (zc (zc (zp (pT (iv 0) ?_))));refine zn (cw_block ?_);refine cw_loop [1, 2, 3, 4] (fun ws' wr m => ∃ i : Nat, ∃ ao : Option Addr, ∃ co : Nat, ws' = [(1, pw O1 0), (2, pw O5 0), (3, pw Ce 0), (4, iv i)] ∧ m = n - i ∧ Cu.heap.size ≤ wr.heap.size ∧ Ext w wr ∧ Ext X6 wr ∧ BoxAt wr Ce 0 (iv c) ∧ OwnL recR Cu.heap.size 49 7 (.slice ao i co) wr (Rep.fewN l i) ∧ BoxAt wr Ce 1 (.slice ao i co) ∧ i ≤ n ∧ i ≤ 6 ∧ (Rep.fewN l i).length = i ∧ i ≤ co) (ws0 := [(1, pw O1 0), (2, pw O5 0), (3, pw Ce 0), (4, iv 0)]) (by kernel_rfl) _ ⟨0, none, 0, rfl, rfl, Nat.le_refl _, hE, Bn, B0, OwnL.nil _ _ _ _ _, Bo, Nat.zero_le _, Nat.zero_le _, rfl, Nat.le_refl _⟩ ?_;clear B0 Bo hE Bn;rintro Dr L ws D8 ⟨i, ao, co, rfl, rfl, Bt, hE, Bn, B0, C6, Bf, hi, Dq, hol, Cm⟩;have Bm := C6.lt
 by_cases hlt : i < n
 ·
  by_cases hlt : i < 6
  ·
   obtain rfl := ha (by omega);have hbl := hbr (by omega);have hms := Rep.few_snoc (l := l) (i := i) (by omega);refine zc (zc (zp (pD (iv i) (pw O1 1) ?_)));refine pU (sv b o n k) (xl (ld23 (Bq.c Bn))) ?_;refine pT (iv n) ?_;refine pU (.bool true) (ed (((i : Nat) : Int) < ((n : Nat) : Int)) (by omega)) ?_;refine pD (.bool true) (iv i) ?_;refine pU (.bool true) (ed (((i : Nat) : Int) < (6 : Int)) (by omega)) ?_;refine pT (.bool true) ?_;refine zn (zt ?_);refine cw_skip (zq (zc (cw_block ?_)));refine zc (zp (pT (pw O1 1) ?_));refine pU (sv b o n k) (xl (ld23 (Bq.c Bn))) ?_;refine pT (iv i) ?_;refine pU (pw b (o + i * 7)) (xi (sv b o n k) (iv i) (ix23 (k := i) (by omega))) ?_;refine pU (rvv (recN l i)) (xl (rl ((hx.ext hE).r (i := i) (by omega)))) ?_;refine pS (sw 49 #[iv 0, iv 0, iv 0, iv 0, iv 0, iv 0, .string (⟨#[]⟩)] ?_);intro Cj Db Bc D5 hb hbx;have ⟨B3, B4, B7, B8, Ba, Bb, B2⟩ := bq7 hbx;refine mv5 hb hE Bn B0 C6 Bf fun hE Bn B0 C6 Bf=>?_;have C1 := hb.size;have Dn := B3.lt;refine pP (sn_setK7 (O := Cj) (j := 0) (v0 := iv ((recN l i).c : Int)) (v1 := iv ((recN l i).n : Int)) (v2 := iv ((recN l i).t : Int)) (v3 := iv ((recN l i).o : Int)) (v4 := iv ((recN l i).w : Int)) (v5 := iv ((recN l i).k : Int)) (v6 := .string ((recN l i).x)) (xt (pw Cj 0) (rvv (recN l i)) (st49 B3.1 B3.2 B4.1 B4.2 B7.1 B7.2 B8.1 B8.2 Ba.1 Ba.2 Bb.1 Bb.2 B2.1 B2.2)) B3 B4 B7 B8 Ba Bb B2 ?_);intro Cy ho B3 B4 B7 B8 Ba Bb B2 hk;replace hE := ho.ext hE (by omega);replace Bn := ho.ext Bn (T (T C7 (T Bg Bt)) (Nat.le_of_eq Bc));replace B0 := ho.box (by omega) B0;replace C6 := C6.turn ho (own_not2 Bm (Nat.le_of_eq Bc)) (fun _ _ _ h => by rw [h.2]; exact fun b hb => by cases hb);replace Bf := ho.box (by omega) Bf;have C2 := Nat.le_of_eq ho.size.symm;clear ho hk;refine zn (cK [1,2,3,4,5] (fun L => ?_));refine zc (zp (pT (pw Cj 6) ?_));refine pU (.string ((recN l i).x)) (xl (ld9 (B2.1))) ?_;refine pT (pw Cj 6) ?_;refine pU (.string ((recN l i).x)) (xl (ld9 (B2.1))) ?_;refine pT (iv (((ByteArray.size ((recN l i).x) : Nat) : Int) : Int)) ?_;refine pU (iv (((min (ByteArray.size ((recN l i).x)) 20 : Nat) : Int) : Int)) (ev_int (show _ = Result.ok (Next.value (Value.int .i64 (if (20 : Int) < (((ByteArray.size ((recN l i).x) : Nat) : Int) : Int) then (20 : Int) else (((ByteArray.size ((recN l i).x) : Nat) : Int) : Int)))) _ from by kernel_rfl) (by split <;> omega)) ?_;refine pU (.string (ByteArray.extract ((recN l i).x) 0 (min (ByteArray.size ((recN l i).x)) 20))) (ex_slice (p := .string ((recN l i).x)) rfl (by kernel_rfl) (by kernel_rfl) (by kernel_rfl) (by kernel_rfl) (slS_01 (j := min (ByteArray.size ((recN l i).x)) 20) (by omega))) ?_;refine pT (pw Cj 6) ?_;refine pP (zE Cj 6 (.string (ByteArray.extract ((recN l i).x) 0 (min (ByteArray.size ((recN l i).x)) 20))) (st9 B2.1 B2.2) B2 ?_);intro Dc ho B2 hk;replace hE := ho.ext hE (by omega);replace Bn := ho.ext Bn (T (T C7 (T Bg Bt)) (Nat.le_of_eq Bc));replace B0 := ho.box (by omega) B0;replace C6 := C6.turn ho (own_not2 Bm (Nat.le_of_eq Bc)) (fun _ _ _ h => by rw [h.2]; exact fun b hb => by cases hb);replace Bf := ho.box (by omega) Bf;replace B3 := hk 0 _ (by omega) B3;replace B4 := hk 1 _ (by omega) B4;replace B7 := hk 2 _ (by omega) B7;replace B8 := hk 3 _ (by omega) B8;replace Ba := hk 4 _ (by omega) Ba;replace Bb := hk 5 _ (by omega) Bb;have C3 := Nat.le_of_eq ho.size.symm;clear ho hk;refine zn (zp (pT (pw Ce 1) ?_));refine pU (.slice ao i co) (xl (ld23 (Bf.1))) ?_;refine pU (.agg #[iv ((recN l i).c : Int), iv ((recN l i).n : Int), iv ((recN l i).t : Int), iv ((recN l i).o : Int), iv ((recN l i).w : Int), iv ((recN l i).k : Int), .string (ByteArray.extract ((recN l i).x) 0 (min (ByteArray.size ((recN l i).x)) 20))]) (xl (ld49 (B3.1) (B4.1) (B7.1) (B8.1) (Ba.1) (Bb.1) (B2.1))) ?_;refine pS (sn_newS (us := #[iv ((recN l i).c : Int), iv ((recN l i).n : Int), iv ((recN l i).t : Int), iv ((recN l i).o : Int), iv ((recN l i).w : Int), iv ((recN l i).k : Int), .string (ByteArray.extract ((recN l i).x) 0 (min (ByteArray.size ((recN l i).x)) 20))]) (t := 49) (k := 1) (c := 1) (by kernel_rfl) ?_);intro Cx Dp Bs D6 hb hbx;have ⟨Bp, Bu, Bv, Bw, Bx, By, Bz⟩ := bq7 hbx;refine mv5 hb hE Bn B0 C6 Bf fun hE Bn B0 C6 Bf=>?_;have Cs := hb.size;have Do := Bp.lt;have Cl := C6.base;obtain ⟨Cp, Cd, D9, Cn, C0, Cg, Be⟩ := own_app1k (P := Tryz.prog) (ty := 23) recT (C6) (T Bt (T C1 (T C2 (T C3 Cs)))) (k := i) hol (O := Cx) (c := 1) (x := (Rep.cut20 (recN l i))) (d := [iv ((recN l i).c : Int), iv ((recN l i).n : Int), iv ((recN l i).t : Int), iv ((recN l i).o : Int), iv ((recN l i).w : Int), iv ((recN l i).k : Int), .string (ByteArray.extract ((recN l i).x) 0 (min (ByteArray.size ((recN l i).x)) 20))]) (F := []) rfl (cells7 (Bp.1) (Bu.1) (Bv.1) (Bw.1) (Bx.1) (By.1) (Bz.1)) (by simp [Value.oneCell']) (⟨rfl, rfl⟩) (fun b hb => by cases hb) (by omega) (by omega);refine pS (sn_eff (v := sv Cp 0 (i + 1) Cd) (w' := D9) (ex_append rfl (by kernel_rfl) (by kernel_rfl) Cn) ?_);replace B0 := BoxAt.grownR B0 Be (own_not Cl (Nat.lt_of_lt_of_le C5 Bg));replace Bf := BoxAt.grownR Bf Be (own_not Cl (Nat.lt_of_lt_of_le C5 Bg));replace hE := Cg.ext _ hE (T Co (T Ct (T C7 Bg)));replace Bn := Cg.ext _ Bn (T C7 Bg);have Cv := Cg.size;have Dh := C0.base Cp rfl;have Dg := C0.lt Cp rfl;have Cr := (own_capR C0 (by rw [List.length_append, hol]; rfl))
   refine pT (pw Ce 1) ?_;refine pP (zE Ce 1 (sv Cp 0 (i + 1) Cd) (st23 Bf.1 Bf.2) Bf ?_);intro Dd ho Bf hk;replace hE := ho.ext hE (T (T Co Ct) (Nat.le_of_eq Br));replace Bn := ho.ext Bn (Nat.le_of_eq Br);replace B0 := hk 0 _ (by omega) B0;have q9 := ho.bx Cj (by omega);clear q9;have q9 := ho.bx Cx (by omega);clear q9;replace C0 := C0.turn ho (own_not (C0.base) (Nat.lt_of_lt_of_le C5 Bg)) (fun _ _ _ h => by rw [h.2]; exact fun b hb => by cases hb);have Cw := Nat.le_of_eq ho.size.symm;clear ho hk;refine pl_nil (qw_block (zq (cK [1,2,3,4] (fun L => ?_))));refine zp (pT (iv i) ?_);refine pU (iv ((i + 1 : Nat) : Int)) (ew (by omega) (by omega)) ?_;refine pT (iv ((i + 1 : Nat) : Int)) ?_;refine pl_nil (qw_round [1, 2, 3, 4] (ws' := [(1, pw O1 0), (2, pw O5 0), (3, pw Ce 0), (4, iv ((i + 1 : Nat) : Int))]) (by kernel_rfl) _ ?_ ⟨(i + 1), (some ⟨Cp, 0, none⟩), Cd, rfl, rfl, (by omega), hE, Bn, B0, (by rw [hms]; exact C0), Bf, by omega, by omega, (Rep.few_len (by omega)), Cr⟩);omega
  ·
   have hfe := Rep.few_end (l := l) (i := i) (by omega) (by omega) (by omega);refine zc (zc (zp (pD (iv i) (pw O1 1) ?_)));refine pU (.slice a n k) (xl (ld23 (Bq.c Bn))) ?_;refine pT (iv n) ?_;refine pU (.bool true) (ed (((i : Nat) : Int) < ((n : Nat) : Int)) (by omega)) ?_;refine pD (.bool true) (iv i) ?_;refine pU (.bool false) (en (((i : Nat) : Int) < (6 : Int)) (by omega)) ?_;refine pT (.bool false) ?_;refine zn (zf ?_);refine cw_exit (qw_then_exit (qw_then_exit (qw_block_out (zq (zc (zp (pU (.agg #[iv c, .slice ao i co]) (xl (ld25 (B0.1) (Bf.1))) ?_)))))));have C9 := (C4.x Bn);have Ca := (Bq.x Bn);have Bh := (Cf.x Bn);have Bi := (Ck.x Bn);refine pP (sn_set2 (O := O5) (j := 0) (v := iv c) (v' := .slice ao i co) (xt (pw O5 0) (.agg #[iv c, .slice ao i co]) (st25 Bh.1 Bh.2 Bi.1 Bi.2)) Bh Bi ?_);intro De ho Bh Bi hk;replace hE := ho.ext hE (T Co (Nat.le_of_eq Ci));have q9 := ho.bx O1 (by omega);clear q9;replace B0 := ho.box (by omega) B0;replace C6 := C6.turn ho (own_not (C6.base) (Nat.lt_of_lt_of_le Cq (T C7 Bg))) (fun _ _ _ h => by rw [h.2]; exact fun b hb => by cases hb);replace Bf := ho.box (by omega) Bf;have Di := Nat.le_of_eq ho.size.symm;clear ho hk;refine zn (cw_ret (qw_ret [.agg #[iv c, .slice ao i co]] rfl ⟨⟨_, by kernel_rfl, res_ld (ld25 (Bh.1) (Bi.1))⟩, trivial⟩ ?_));exact ⟨_, _, _, rfl, by rw [← hfe]; exact own_recs C6 hol (by omega), Cm, hE⟩
 ·
  have hfe := Rep.few_end (l := l) (i := i) (by omega) (by omega) (by omega);refine zc (zc (zp (pD (iv i) (pw O1 1) ?_)));refine pU (.slice a n k) (xl (ld23 (Bq.c Bn))) ?_;refine pT (iv n) ?_;refine pU (.bool false) (en (((i : Nat) : Int) < ((n : Nat) : Int)) (by omega)) ?_;refine pT (.bool false) ?_;refine pK ?_;refine pK ?_;refine pT (.bool false) ?_;refine zn (zf ?_);refine cw_exit (qw_then_exit (qw_then_exit (qw_block_out (zq (zc (zp (pU (.agg #[iv c, .slice ao i co]) (xl (ld25 (B0.1) (Bf.1))) ?_)))))));have Cb := (C4.x Bn);have Cc := (Bq.x Bn);have Bj := (Cf.x Bn);have Bk := (Ck.x Bn);refine pP (sn_set2 (O := O5) (j := 0) (v := iv c) (v' := .slice ao i co) (xt (pw O5 0) (.agg #[iv c, .slice ao i co]) (st25 Bj.1 Bj.2 Bk.1 Bk.2)) Bj Bk ?_);intro Df ho Bj Bk hk;replace hE := ho.ext hE (T Co (Nat.le_of_eq Ci));have q9 := ho.bx O1 (by omega);clear q9;replace C6 := C6.turn ho (own_not (C6.base) (Nat.lt_of_lt_of_le Cq (T C7 Bg))) (fun _ _ _ h => by rw [h.2]; exact fun b hb => by cases hb);have Dj := Nat.le_of_eq ho.size.symm;clear ho hk;refine zn (cw_ret (qw_ret [.agg #[iv c, .slice ao i co]] rfl ⟨⟨_, by kernel_rfl, res_ld (ld25 (Bj.1) (Bk.1))⟩, trivial⟩ ?_));exact ⟨_, _, _, rfl, by rw [← hfe]; exact own_recs C6 hol (by omega), Cm, hE⟩
end Go.Proofs.YtfmoabgjaclkpaaGreatDoor

namespace Go.Proofs.YtfmoabgjaclkpaaGreatDoor
open Go.RowKit
structure IB (w : World) (b o n : Nat) (q : Nat → Int) : Prop where
 at_ : ∀ i, i < n → w.cell? ⟨b, o + i, none⟩ = some (.int .i64 (q i)) ∧ IsI (q i)
theorem IB.ext {w w' : World} {b o n : Nat} {q : Nat → Int} (h : IB w b o n q) (hE : Ext w w') : IB w' b o n q := ⟨fun i hi => ⟨hE.cell (h.at_ i hi).1, (h.at_ i hi).2⟩⟩
theorem IntAt.parts {w : World} {a : Option Addr} {n : Nat} {q : Nat → Int} (h : IntAt w a n q) : ∃ b o, (0 < n → a = some ⟨b, o, none⟩) ∧ (0 < n → b < w.heap.size) ∧ IB w b o n q := by
 rcases h with h | ⟨b, o, ha, hc⟩
 · exact ⟨0, 0, fun q => by omega, fun q => by omega, ⟨fun i hi => by omega⟩⟩
 · exact ⟨b, o, fun _ => ha, fun h0 => World.block_lt_of_cell? _ _ (hc 0 h0).1, ⟨hc⟩⟩
theorem rSame_r {w1 w2 : World} {a1 a2 : Option Addr} {n1 n2 : Nat} {l1 l2 : List Rec} {c1 c2 : Int} {r : Bool} (k1 k2 : Nat) (w : World) (H1 : RecsAt w1 a1 n1 l1) (e1 : Ext w1 w) (H2 : RecsAt w2 a2 n2 l2) (e2 : Ext w2 w) (hr : decide (c1 = c2 ∧ l1 = l2) = r) : Calls Tryz.prog 20 #[.agg #[.int .i64 c1, .slice a1 n1 k1], .agg #[.int .i64 c2, .slice a2 n2 k2]] w fun e w' => e = .returned (.bool r) ∧ Ext w w' := hr ▸ rSame_c k1 k2 w H1 e1 H2 e2
theorem sn_set2C {P : Program} {ev : Operand → Value} {oi : Oper} {w : World} {N : Value → World → Prop} {O j : Nat} {u u' v v' : Value} (h1 : (execOp ev oi).run P w = .ok .skip ((w.setCell ⟨O, j, none⟩ v).setCell ⟨O, j + 1, none⟩ v')) (hO : BoxAt w O j u) (hO' : BoxAt w O (j + 1) u')
  (h : ∀ X, Turns O w X → BoxAt X O j v → BoxAt X O (j + 1) v' → (∀ b i, ¬ (b = O ∧ (i = j ∨ i = j + 1)) → X.cell? ⟨b, i, none⟩ = w.cell? ⟨b, i, none⟩) → N undef X) : StepN P ev oi w N := by
 have k : ∀ (W : World) (j : Nat) (u v : Value), BoxAt W O j u → BoxAt (W.setCell ⟨O, j, none⟩ v) O j v := fun W j u v hO => ⟨by have := hO.1; simp [go_sem, this], by have := hO.2; simpa [go_sem] using this⟩
 have k2 : ∀ (W : World) (j i : Nat) (x v : Value), i ≠ j → BoxAt W O i x → BoxAt (W.setCell ⟨O, j, none⟩ v) O i x := fun W j i x v hi hx => ⟨by rw [World.cell?_setCell_other W _ _ _ (fun e => hi (congrArg Addr.off e).symm)]; exact hx.1, by simp [go_sem, hx.2]⟩
 refine sn_skp h1 (h _ ((turns_set _ _ _ _).trans (turns_set _ _ _ _)) (k2 _ _ _ _ _ (by omega) (k _ _ _ _ hO)) (k _ _ _ _ (k2 _ _ _ _ _ (by omega) hO')) fun b i hn => ?_)
 rw [World.cell?_setCell_other _ _ _ _ (fun e => hn ⟨(congrArg Addr.block e).symm, .inr (congrArg Addr.off e).symm⟩), World.cell?_setCell_other _ _ _ _ (fun e => hn ⟨(congrArg Addr.block e).symm, .inl (congrArg Addr.off e).symm⟩)]
theorem RecAt.keep2 {w X : World} {O b o : Nat} {x : Rec} {a : Option Addr} {n c : Nat} (h : RecAt w b o x) (hs : w.cell? ⟨O, 1, none⟩ = some (.slice a n c)) (hk : ∀ b i, ¬ (b = O ∧ (i = 0 ∨ i = 0 + 1)) → X.cell? ⟨b, i, none⟩ = w.cell? ⟨b, i, none⟩) : RecAt X b o x := by
 have h2 : b = O → 2 ≤ o := fun e => by
  subst e
  match o, h with
  | 0, h => have := h.2.1; rw [Nat.zero_add, hs] at this; cases this
  | 1, h => have := h.1; rw [hs] at this; cases this
  | o + 2, _ => omega
 have h3 : ∀ i, o ≤ i → X.cell? ⟨b, i, none⟩ = w.cell? ⟨b, i, none⟩ := fun i hi => hk b i fun q => by have := h2 q.1; omega
 unfold RecAt at *
 rw [h3 _ (Nat.le_refl _), h3 _ (Nat.le_add_right _ _), h3 _ (Nat.le_add_right _ _), h3 _ (Nat.le_add_right _ _), h3 _ (Nat.le_add_right _ _), h3 _ (Nat.le_add_right _ _), h3 _ (Nat.le_add_right _ _)]
 exact h
theorem RecsAt.keep2 {w X : World} {O : Nat} {s : Option Addr} {m : Nat} {l : List Rec} {a : Option Addr} {n c : Nat} (h : RecsAt w s m l) (hs : w.cell? ⟨O, 1, none⟩ = some (.slice a n c)) (hk : ∀ b i, ¬ (b = O ∧ (i = 0 ∨ i = 0 + 1)) → X.cell? ⟨b, i, none⟩ = w.cell? ⟨b, i, none⟩) : RecsAt X s m l :=
 ⟨h.len, h.max, h.pl, h.at_.imp id fun ⟨b, o, ha, hx⟩ => ⟨b, o, ha, ⟨fun i x hi => (hx.at_ i x hi).keep2 hs hk⟩⟩⟩
theorem Now3.keep2 {w X : World} {O g : Nat} {R : List Raw} {N : Nat → List Rec} {a : Option Addr} {n c : Nat} (h : Now3 w g R N) (hs : w.cell? ⟨O, 1, none⟩ = some (.slice a n c)) (hk : ∀ b i, ¬ (b = O ∧ (i = 0 ∨ i = 0 + 1)) → X.cell? ⟨b, i, none⟩ = w.cell? ⟨b, i, none⟩) (hg : O ≠ g) : Now3 X g R N :=
 ⟨h.1, fun j x hx => by
  have := h.2.1 j x hx
  rw [hk g _ (fun q => hg q.1.symm), hk g _ (fun q => hg q.1.symm)]; exact this, fun j hj => by
  obtain ⟨a, n, c, h1, h2, h3⟩ := h.2.2 j hj
  exact ⟨a, n, c, h1, h2.keep2 hs hk, h3⟩⟩
theorem Now3.lt {w : World} {g : Nat} {R : List Raw} {N : Nat → List Rec} (h : Now3 w g R N) : g < w.heap.size := by
 obtain ⟨_, _, _, h1, _⟩ := h.at (j := 0) (by decide)
 exact World.block_lt_of_cell? _ _ h1
theorem RawsB.one {w : World} {O j : Nat} {s : Slc} (h0 : w.cell? ⟨O, 0, none⟩ = some (.int .i64 ((j : Nat) : Int))) (h1 : w.cell? ⟨O, 1, none⟩ = some (.slice s.1 s.2.1 s.2.2)) : RawsB w O 0 [(j, s)] := fun i x hx => by
 match i, hx with
 | 0, hx => cases hx; exact ⟨h0, h1⟩
 | _ + 1, hx => simp at hx
theorem Now3.take {w : World} {g : Nat} {R : List Raw} {N : Nat → List Rec} (h : Now3 w g R N) (j : Nat) : j = 0 ∨ ∃ b o, (some (⟨g, 0, none⟩ : Addr)) = some ⟨b, o, none⟩ ∧ RawsB w b o (R.take j) := .inr ⟨g, 0, rfl, h.2.1.take j⟩
theorem Now3.cap {w : World} {g c : Nat} {n₀ : Nat} {l : List Raw} (h : OwnL rawR n₀ 25 2 (.slice (some ⟨g, 0, none⟩) 3 c) w l) (hl : l.length = 3) : 3 ≤ c := by
  obtain ⟨cs, h1, h2, h3, h4⟩ := h
  rcases h3.2 with ⟨q, _⟩ | ⟨g', cap', cur, q, _, _, q3, _⟩
  · cases q
  · injection q with q1 q2 q4
    omega
namespace Rep
def Rnd (U : List Rec) (L N : Nat → List Rec) (k : Nat) : Prop := (1 ≤ k → Has (N 1) (L 0) ∧ Has (N 1) (L 1)) ∧ (2 ≤ k → Has (N 1) U ∧ Has (N 2) U) ∧ (3 ≤ k → ∀ j, j < 3 → Has (N j) U)
theorem Rnd.zero (U : List Rec) (L N : Nat → List Rec) : Rnd U L N 0 := ⟨fun h => absurd h (by decide), fun h => absurd h (by decide), fun h => absurd h (by decide)⟩
theorem upd2_has {U : List Rec} (hU : keysD U) {N : Nat → List Rec} (hi : ∀ j, j < 3 → In U (N j)) {a b : Nat} (ha : a < 3) (hb : b < 3) (hne : a ≠ b) : (∀ j, j < 3 → Has (updL (updL N a (unionF (N a) (N b))) b (unionF (updL N a (unionF (N a) (N b)) b) (updL N a (unionF (N a) (N b)) a)) j) (N j)) ∧ Has (updL (updL N a (unionF (N a) (N b))) b (unionF (updL N a (unionF (N a) (N b)) b) (updL N a (unionF (N a) (N b)) a)) a) (N b) ∧ Has (updL (updL N a (unionF (N a) (N b))) b (unionF (updL N a (unionF (N a) (N b)) b) (updL N a (unionF (N a) (N b)) a)) b) (N a) := by
  have i1 := (hi a ha).union hU (hi b hb)
  have eb : updL N a (unionF (N a) (N b)) b = N b := updL_ne hne.symm
  have ea : updL N a (unionF (N a) (N b)) a = unionF (N a) (N b) := updL_same
  rw [eb, ea]
  refine ⟨fun j hj x hx => ?_, fun x hx => ?_, fun x hx => ?_⟩
  · by_cases e : j = b
    · subst e; rw [updL_same, (hi j hb).mem hU i1]; exact .inl hx
    · rw [updL_ne e]
      by_cases e2 : j = a
      · subst e2; rw [updL_same, (hi j ha).mem hU (hi b hb)]; exact .inl hx
      · rw [updL_ne e2]; exact hx
  · rw [updL_ne hne, updL_same, (hi a ha).mem hU (hi b hb)]; exact .inr hx
  · rw [updL_same, (hi b hb).mem hU i1, (hi a ha).mem hU (hi b hb)]; exact .inr (.inl hx)
theorem Has.trans {a b c : List Rec} (h : Has a b) (k : Has b c) : Has a c := fun x hx => h x (k x hx)
theorem All3.parts {U : List Rec} {L : Nat → List Rec} {A l : List Rec} (h : All3 U L A) (h0 : Has l (L 0)) (h1 : Has l (L 1)) (h2 : Has l (L 2)) : Has l U := fun x hx => by
 have i0 := h.inn 0 (by decide); have i1 := h.inn 1 (by decide); have i2 := h.inn 2 (by decide)
 have hA := h.all x hx
 rw [(merge_is h.ml).2, (i0.union h.kd i1).mem h.kd i2, i0.mem h.kd i1] at hA
 rcases hA with (q | q) | q
 · exact h0 x q
 · exact h1 x q
 · exact h2 x q
theorem All3.step {U : List Rec} {L N : Nat → List Rec} {A : List Rec} (h : All3 U L A) (hn : Now U L N) {k a b : Nat} (ha : a = k % 3) (hb : b = (k + 1) % 3) (hr : Rnd U L N k) : Rnd U L (updL (updL N a (unionF (N a) (N b))) b (unionF (updL N a (unionF (N a) (N b)) b) (updL N a (unionF (N a) (N b)) a))) (k + 1) := by
  obtain ⟨g1, g2, g3⟩ := upd2_has h.kd hn.inn (a := a) (b := b) (by omega) (by omega) (by omega)
  obtain ⟨r1, r2, r3⟩ := hr
  have hk : k = 0 ∨ k = 1 ∨ k = 2 ∨ 3 ≤ k := by omega
  refine ⟨fun _ => ?_, fun h2 => ?_, fun h3 => ?_⟩
  · rcases hk with q | q | q | q
    · subst q; subst ha hb
      exact ⟨g3.trans (hn.has 0 (by decide)), (g1 1 (by decide)).trans (hn.has 1 (by decide))⟩
    all_goals have := r1 (by omega); exact ⟨(g1 1 (by decide)).trans this.1, (g1 1 (by decide)).trans this.2⟩
  · rcases hk with q | q | q | q
    · omega
    · subst q; subst ha hb
      have := r1 (by decide)
      have e1 := g1 1 (by decide)
      exact ⟨h.parts (e1.trans this.1) (e1.trans this.2) (g2.trans (hn.has 2 (by decide))), h.parts (g3.trans this.1) (g3.trans this.2) ((g1 2 (by decide)).trans (hn.has 2 (by decide)))⟩
    all_goals have := r2 (by omega); exact ⟨(g1 1 (by decide)).trans this.1, (g1 2 (by decide)).trans this.2⟩
  · rcases hk with q | q | q | q
    · omega
    · omega
    · subst q; subst ha hb
      have := r2 (by decide)
      intro j hj
      match j, hj with
      | 0, _ => exact g3.trans this.2
      | 1, _ => exact (g1 1 (by decide)).trans this.1
      | 2, _ => exact (g1 2 (by decide)).trans this.2
      | j + 3, hj => omega
    · intro j hj; exact (g1 j hj).trans (r3 q j hj)
end Rep
instance {w w' : World} {b o n : Nat} {q : Nat → Int} : MvC w w' (IB w b o n q) (IB w' b o n q) := ⟨fun e h => h.ext e⟩
end Go.Proofs.YtfmoabgjaclkpaaGreatDoor

namespace Go.Proofs.YtfmoabgjaclkpaaGreatDoor
set_option maxRecDepth 1000000
set_option maxHeartbeats 4000000
set_option synthInstance.maxHeartbeats 0
set_option synthInstance.maxSize 9999
open Go.RowKit
def Tz80_0 : List Row := [(some 43, [0], []), (some 44, [43], [0]), (some 45, [6], []), (some 46, [45], [2, 1]), (some 47, [46], [3]), (some 48, [44, 47], [1, 4, 3]), (some 12, [48], [5, 5, 0, 1, 2, 3, 4, 5])]
def Tz80_1 : List Row := [(some 69, [16], []), (some 70, [18], []), (some 71, [69, 70], [0, 1]), (some 72, [71], [2]), (some 73, [15, 72], [3]), (some 74, [17, 72], [3]), (some 75, [73, 74, 72], [4, 5, 3, 3]), (some 76, [75, 72], [6, 3]), (some 77, [72, 76], [3, 7]), (some 78, [77], [8, 6]), (some 79, [14, 78], [9]), (some 80, [79, 78], [10, 9, 9]), (some 81, [14, 78], [9]), (some 82, [81, 78], [12, 11, 9]), (some 83, [80, 82, 78], [11, 13, 9]), (some 84, [78, 83], [9, 14])]
def Tz80_2 : List Row := [(some 114, [7], []), (some 115, [114], [0]), (some 116, [7], []), (some 117, [116], [2]), (some 118, [115, 117], [1, 3]), (some 119, [7], []), (some 120, [119], [5]), (some 121, [120], [6]), (some 122, [7], []), (some 123, [122], [8]), (some 124, [123], [9, 7]), (some 125, [124], [10]), (some 126, [121, 125], [7, 11]), (some 127, [118, 126], [4, 12]), (some 128, [127], [13]), (some 129, [], [])]
def Tz80_3 : List Row := [(some 134, [14], []), (some 135, [7], []), (some 136, [135], [1]), (some 137, [24], []), (some 138, [137], [3]), (some 139, [24], []), (some 140, [139], [5]), (some 141, [7], []), (some 142, [141], [7]), (some 143, [142], [8]), (some 144, [3], []), (some 145, [134, 136, 138, 140, 143, 144], [0, 2, 4, 6, 9, 10, 9]), (some 133, [145], [11]), (some 146, [133], [12]), (some 147, [133], [12]), (none, [19, 146], [13, 11, 0, 1, 2, 3, 4, 5, 6, 7, 8, 9, 10, 11, 12, 13]), (some 20, [147], [14, 15, 0, 1, 2, 3, 4, 5, 6, 7, 8, 9, 10, 11, 12, 13, 14, 15])]
def Tz80_4 : List Row := [(some 149, [14], []), (some 150, [7], []), (some 151, [150], [1]), (some 152, [24], []), (some 153, [152], [3]), (some 154, [24], []), (some 155, [154], [5]), (some 156, [7], []), (some 157, [156], [7]), (some 158, [157], [8]), (some 159, [3], []), (some 160, [149, 151, 153, 155, 158, 159], [0, 2, 4, 6, 9, 10, 9]), (some 148, [160], [11]), (some 161, [148], [12]), (some 162, [148], [12]), (none, [21, 161], [13, 11, 0, 1, 2, 3, 4, 5, 6, 7, 8, 9, 10, 11, 12, 13]), (some 22, [162], [14, 15, 0, 1, 2, 3, 4, 5, 6, 7, 8, 9, 10, 11, 12, 13, 14, 15])]
def Tz80_5 : List Row := [(some 209, [14], []), (some 210, [12], []), (some 211, [25], []), (some 212, [210, 211], [1, 2]), (some 213, [212], [3]), (some 214, [209, 213], [0, 4]), (some 208, [214], [5]), (some 215, [208], [6]), (some 216, [208], [6]), (none, [19, 215], [7, 5, 0, 1, 2, 3, 4, 5, 6, 7]), (some 20, [216], [8, 9, 0, 1, 2, 3, 4, 5, 6, 7, 8, 9])]
def Tz80_6 : List Row := [(some 218, [14], []), (some 219, [12], []), (some 220, [25], []), (some 221, [219, 220], [1, 2]), (some 222, [221], [3]), (some 223, [218, 222], [0, 4]), (some 217, [223], [5]), (some 224, [217], [6]), (some 225, [217], [6]), (none, [21, 224], [7, 5, 0, 1, 2, 3, 4, 5, 6, 7]), (some 22, [225], [8, 9, 0, 1, 2, 3, 4, 5, 6, 7, 8, 9])]
def Tz80_7 : List Row := [(some 227, [14], []), (some 228, [12], []), (some 229, [25], []), (some 230, [228, 229], [1, 2]), (some 231, [230], [3]), (some 232, [227, 231], [0, 4]), (some 226, [232], [5]), (some 233, [226], [6]), (some 234, [226], [6]), (some 15, [233], [7, 5, 0, 1, 2, 3, 4, 5, 6, 7]), (some 16, [234], [8, 9, 0, 1, 2, 3, 4, 5, 6, 7, 8, 9])]
def Tz80_8 : List Row := [(some 236, [14], []), (some 237, [12], []), (some 238, [25], []), (some 239, [237, 238], [1, 2]), (some 240, [239], [3]), (some 241, [236, 240], [0, 4]), (some 235, [241], [5]), (some 242, [235], [6]), (some 243, [235], [6]), (some 17, [242], [7, 5, 0, 1, 2, 3, 4, 5, 6, 7]), (some 18, [243], [8, 9, 0, 1, 2, 3, 4, 5, 6, 7, 8, 9])]
def Tz80_9 : List Row := [(some 244, [20], []), (some 245, [22], []), (some 246, [244, 245], [0, 1]), (some 247, [246], [2]), (some 248, [16, 247], [3]), (some 249, [18, 247], [3]), (some 250, [248, 249, 247], [4, 5, 3]), (some 251, [247, 250], [3, 6]), (some 252, [251], [7, 3]), (some 253, [19, 252], [8]), (some 254, [21, 252], [8]), (some 255, [253, 254, 252], [9, 10, 8, 8]), (some 256, [255, 252], [11, 8]), (some 257, [252, 256], [8, 12]), (some 258, [257], [13, 11]), (some 259, [15, 258], [14]), (some 260, [17, 258], [14]), (some 261, [259, 260, 258], [15, 16, 14, 14]), (some 262, [261, 258], [17, 14]), (some 263, [258, 262], [14, 18]), (some 264, [263], [19, 17]), (some 265, [14, 264], [20]), (some 266, [12, 264], [20]), (some 267, [25, 264], [20]), (some 268, [266, 267, 264], [22, 23, 20]), (some 269, [268, 264], [24, 20]), (some 270, [265, 269, 264], [21, 25, 20, 20]), (some 271, [14, 264], [20]), (some 272, [12, 264], [20]), (some 273, [25, 264], [20]), (some 274, [272, 273, 264], [28, 29, 20]), (some 275, [274, 264], [30, 20]), (some 276, [271, 275, 264], [27, 31, 26, 20]), (some 277, [270, 276, 264], [26, 32, 20]), (some 278, [264, 277], [20, 33])]
theorem IB.four {w : World} {b : Nat} {x0 x1 x2 x3 : Int} (h0 : w.cell? ⟨b, 0, none⟩ = some (.int .i64 x0)) (h1 : w.cell? ⟨b, 1, none⟩ = some (.int .i64 x1)) (h2 : w.cell? ⟨b, 2, none⟩ = some (.int .i64 x2)) (h3 : w.cell? ⟨b, 3, none⟩ = some (.int .i64 x3)) (i0 : IsI x0) (i1 : IsI x1) (i2 : IsI x2) (i3 : IsI x3) : ∃ q, IB w b 0 4 q := by
 refine ⟨fun j => if j = 0 then x0 else if j = 1 then x1 else if j = 2 then x2 else x3, ⟨fun i hi => ?_⟩⟩
 match i, hi with
 | 0, _ => exact ⟨h0, i0⟩
 | 1, _ => exact ⟨h1, i1⟩
 | 2, _ => exact ⟨h2, i2⟩
 | 3, _ => exact ⟨h3, i3⟩
 | _ + 4, h => omega
theorem IB.turn {w w' : World} {O b o n : Nat} {q : Nat → Int} (h : IB w b o n q) (t : Turns O w w') (hne : O ≠ b) : IB w' b o n q := ⟨fun i hi => ⟨t.cell hne (h.at_ i hi).1, (h.at_ i hi).2⟩⟩
theorem IB.c {w : World} {b i : Nat} {q : Nat → Int} (h : IB w b 0 4 q) (hi : i < 4) : w.cell? ⟨b, i, none⟩ = some (.int .i64 (q i)) := by
 have := (h.at_ i hi).1
 rwa [Nat.zero_add] at this
theorem isI_pk {c : Int} {n : Nat} (h : 0 < n) (hn : n ≤ 1000) : IsI ((Rep.pk c n : Nat) : Int) := by
 have := Rep.pk_lt (c := c) h
 unfold IsI; omega
theorem isI_pk1 {c : Int} {n : Nat} (h : 0 < n) (hn : n ≤ 1000) : IsI ((1 + Rep.pk c n : Nat) : Int) := by
 have := Rep.pk_lt (c := c) h
 unfold IsI; omega
theorem ReplicaMatchesReference_walk (w : World) (v0 : Value) (o0 : Quads w v0) (v1 : Value) (o1 : Replica1 w v1) (v2 : Value) (o2 : Four v2) (v3 : Value) (o3 : Txt v3) (v4 : Value) (o4 : Txt v4) (hRl : RootAt w) : Calls Tryz.prog 3 #[v0, v1, v2, v3, v4] w fun e w' => e = .returned (.bool true) ∧ Ext w w' := by
 obtain ⟨ax, nx, cx, q, rfl, Ra, Q5, _, hQ⟩ := o0;obtain ⟨cr, ar, nr, kr, lr, rfl, R8, R9, hRw⟩ := o1;obtain ⟨f0, f1, f2, f3, rfl, R6, Nn, Np, Nq⟩ := o2;obtain ⟨s3, rfl, Gk⟩ := o3;obtain ⟨s4, rfl, Rb⟩ := o4;have Q4 := Rep.pk_lt (c := f2) (n := 6) (by decide);refine calls_cw 359 [(4, .string s4), (3, .string s3), (2, .agg #[iv f0, iv f1, iv f2, iv f3]), (1, .agg #[iv cr, .slice ar nr kr]), (0, .slice ax nx cx)] Tryz.func3 rfl Tryz.ntmps3 (by kernel_rfl) (by kernel_rfl) (fun L => ?_);have hE := Ext.refl w;refine zc (zp (pS (sw 25 #[iv cr, .slice ar nr kr] ?_)));intro O1 X2 Q8 Q6 hb hbx;have ⟨Er, F5⟩ := bq2 hbx;replace hE := hE.trans hb;have Gk := hb.size;have Rc := Er.lt;refine pS (sw 26 #[iv f0, iv f1, iv f2, iv f3] ?_);intro O5 X6 Q9 Q7 hb hbx;have ⟨C7, Es, G6, Cf⟩ := bq4 hbx;refine mv3 hb hE Er F5 fun hE Er F5=>?_;have Gl := hb.size;have Rd := C7.lt;refine pT (.bool false) ?_;refine zn (zc (zp (pS (sc 10 #[] ((sane_c _ (hRl.ext hE)).mono ?_)))));rintro e w9 ⟨rfl, hb⟩;refine mv7 hb hE Er F5 C7 Es G6 Cf fun hE Er F5 C7 Es G6 Cf=>?_;have Dr := hb.size;refine ⟨_, rfl, pT (.bool true) ?_⟩;refine zn (zc (zc (zp (pD (.bool true) (.bool false) ?_))));refine zn (zf ?_);refine cw_skip (zq (zc (zp (pD (.string s3) (.string s3) ?_))));refine pT (iv ((ByteArray.size s3 : Nat) : Int)) ?_;refine pU (iv (((min (ByteArray.size s3) 20 : Nat) : Int) : Int)) (ev_int (show _ = Result.ok (Next.value (Value.int .i64 (if (20 : Int) < ((ByteArray.size s3 : Nat) : Int) then (20 : Int) else ((ByteArray.size s3 : Nat) : Int)))) _ from by kernel_rfl) (by split <;> omega)) ?_;refine pU (.string (ByteArray.extract s3 0 (min (ByteArray.size s3) 20))) (ex_slice (p := .string s3) rfl (by kernel_rfl) (by kernel_rfl) (by kernel_rfl) (by kernel_rfl) (slS_01 (j := min (ByteArray.size s3) 20) (by omega))) ?_;refine pT (.string (ByteArray.extract s3 0 (min (ByteArray.size s3) 20))) ?_;refine zn (cK [0,3,4,6,7,11] (fun L => ?_));refine cw_seq ?_;obtain ⟨tx, htx, hts⟩ : ∃ t, ByteArray.extract s3 0 (min (ByteArray.size s3) 20) = t ∧ t.size ≤ 20 := ⟨_, rfl, by rw [ByteArray.size_extract]; omega⟩;rw [htx];have Dd := Ext.refl w9;refine dE Tz80_0 (fun w' => Ext w9 w') (Ext.drew (Ext.refl _)) (fun ops Q R2 hb hL hR hK => ?_);refine mv2 hb hE Dd fun hE Dd=>?_;have Dt := hb.size;refine wV 0 (.slice ax nx cx) hR Dd ?_;refine wM 2 (.agg #[iv cr, .slice ar nr kr]) hR (fun w hS => ld25 (Er.c hS) (F5.c hS)) Dd ?_;refine wC 1 11 #[.slice ax nx cx] hR ((Made_c cx _ hQ hE (by omega)).mono ?_);rintro e P8 ⟨B, LL, rfl, hB, hT, hTri, hb⟩;refine mv2 hb hE Dd fun hE Dd=>?_;have Du := hb.size;have Dk := Ext.refl P8;refine ⟨_, rfl, Dd.trans Dk, ?_⟩;refine wC 3 12 #[.agg #[iv cr, .slice ar nr kr]] hR ((few_c _ hRw hE (by omega)).mono ?_);rintro e P9 ⟨Ps, Qi, Qa, rfl, Mn, Kk, hb⟩;refine mv2 hb hE Dk fun hE Dk=>?_;have Dv := hb.size;have Cx := Ext.refl P9;have Hl := Dd.trans Dk;refine ⟨_, rfl, Hl.trans Cx, ?_⟩;refine wS 4 hR (sn_newS (us := #[iv cr, .slice Ps Qi Qa]) (t := 25) (k := 1) (c := 1) (by kernel_rfl) ?_);intro R1 R3 P5 P2 hb hbx;have ⟨F1, Fp⟩ := bq2 hbx;refine mv2 hb hE Cx fun hE Cx=>?_;have Dw := hb.size;have Qb := F1.lt;refine ⟨(Hl.trans Cx), ?_⟩;obtain ⟨Cj, Bb, CC, LQ, M4, Ii, Nr, Ns, Iw, hb⟩ := app_four ((hT.ext (Dk.trans Cx))) (F1.1) (Fp.1) ((Mn.ext Cx)) Kk;refine wS 5 hR (sn_eff (v := sv Cj 0 4 Bb) (w' := M4) (ex_append rfl (by kernel_rfl) (by kernel_rfl) Ii) ?_);refine mv2 hb hE Cx fun hE Cx=>?_;have Dx := hb.size;refine ⟨(Hl.trans Cx), ?_⟩;refine wV 6 (sv Cj 0 4 Bb) hR (Hl.trans Cx) ?_;refine we hL hR hK ?_;refine zq (zc (zc (zp (pT (iv 0) ?_))));refine zn (cw_block ?_);have Bg := Ext.refl M4;refine cw_loop [3, 4, 7, 11, 12, 13] (fun ws' wr m => ∃ i : Nat, ws' = [(3, .string tx), (4, .string s4), (7, pw O5 0), (11, .bool true), (12, sv Cj 0 4 Bb), (13, iv i)] ∧ m = 4 - i ∧ M4.heap.size ≤ wr.heap.size ∧ Ext w wr ∧ Ext M4 wr ∧ i ≤ 4) (ws0 := [(3, .string tx), (4, .string s4), (7, pw O5 0), (11, .bool true), (12, sv Cj 0 4 Bb), (13, iv 0)]) (by kernel_rfl) _ ⟨0, rfl, rfl, Nat.le_refl _, hE, Bg, Nat.zero_le _⟩ ?_;clear hE Bg;rintro Re L ws Rf ⟨i, rfl, rfl, De, hE, Bg, hi⟩
 by_cases hlt : i < 4
 ·
  obtain ⟨a9, n9, c9, N8, Na, H9, Nm⟩ := Iw.at_ i (by omega);have Pz := H9.len;have Q3 := H9.max;refine zc (zc (zp (pD (iv i) (sv Cj 0 4 Bb) ?_)));refine pT (iv 4) ?_;refine pU (.bool true) (ed (((i : Nat) : Int) < (4 : Int)) (by omega)) ?_;refine zn (zt ?_);refine cw_skip (zq (zc (cw_block ?_)));refine zc (zp (pD (sv Cj 0 4 Bb) (iv i) ?_));refine pU (pw Cj (i * 2)) (xi (sv Cj 0 4 Bb) (iv i) (ix28z (k := i) (by omega))) ?_;refine pU (.agg #[iv (CC i : Int), .slice a9 n9 c9]) (xl (ld25 ((Bg.cell N8)) ((Bg.cell Na)))) ?_;refine pS (sw 25 #[iv 0, .slice none 0 0] ?_);intro E0 Pp I7 P3 hb hbx;have ⟨B3, B2⟩ := bq2 hbx;refine mv2 hb hE Bg fun hE Bg=>?_;have Eh := hb.size;have Qd := B3.lt;refine pP (sn_set2 (O := E0) (j := 0) (v := iv (CC i : Int)) (v' := .slice a9 n9 c9) (xt (pw E0 0) (.agg #[iv (CC i : Int), .slice a9 n9 c9]) (st25 B3.1 B3.2 B2.1 B2.2)) B3 B2 ?_);intro M6 ho B3 B2 hk;replace hE := ho.ext hE (by omega);replace Bg := ho.ext Bg (T De (Nat.le_of_eq I7));have Ei := Nat.le_of_eq ho.size.symm;clear ho hk;refine zn (cK [3,4,7,11,12,13,14] (fun L => ?_));refine cw_seq ?_;have Cm := Ext.refl M6;refine zp (pU (.agg #[iv (CC i : Int), .slice a9 n9 c9]) (xl (ld25 (B3.1) (B2.1))) ?_);refine pS (sc 13 #[.agg #[iv (CC i : Int), .slice a9 n9 c9]] ((Fold_t _ ((H9.ext (Bg.trans Cm))) (Ext.refl _) (hRl.ext hE)).mono ?_));rintro e Pa ⟨Iu, Ly, Lv, rfl, Mo, Nu, hb⟩;refine mv2 hb hE Cm fun hE Cm=>?_;have Ej := hb.size;have Cn := Ext.refl Pa;refine ⟨_, rfl, pD (.tuple #[.slice Iu Ly Lv, iv (oE (Rep.foldO (CC i) (LQ i)) : Int)]) (.slice Iu Ly Lv) ?_⟩;refine pD (iv (oE (Rep.foldO (CC i) (LQ i)) : Int)) (.slice Iu Ly Lv) ?_;refine pT (iv (oE (Rep.foldO (CC i) (LQ i)) : Int)) ?_;refine zn (zc (zp (pU (.agg #[iv (CC i : Int), .slice a9 n9 c9]) (xl (ld25 (B3.c (Cm.trans Cn)) (B2.c (Cm.trans Cn)))) ?_)));have Mr := Bg.trans Cm;refine pS (sc 14 #[.agg #[iv (CC i : Int), .slice a9 n9 c9]] ((rFold_t _ ((H9.ext (Mr.trans Cn))) (Ext.refl _)).mono ?_));rintro e Pb ⟨Iv, Lz, Lw, rfl, Mp, Nv, hb⟩;refine mv2 hb hE Cn fun hE Cn=>?_;have Ek := hb.size;have Bx := Ext.refl Pb;refine ⟨_, rfl, pD (.tuple #[.slice Iv Lz Lw, iv (oE (Rep.foldO (CC i) (LQ i)) : Int)]) (.slice Iv Lz Lw) ?_⟩;refine pD (iv (oE (Rep.foldO (CC i) (LQ i)) : Int)) (.slice Iv Lz Lw) ?_;refine pT (iv (oE (Rep.foldO (CC i) (LQ i)) : Int)) ?_;refine zn (cK [3,4,7,11,12,13,14,15,16,17,18] (fun L => ?_));refine zc (cw_seq ?_);have Gf := Cm.trans Cn;refine dE Tz80_1 (fun w' => Ext M6 w') (Ext.drew (Gf.trans Bx)) (fun ops Q R4 hb hL hR hK => ?_);refine mv2 hb hE Bx fun hE Bx=>?_;have El := hb.size;have hS := Gf.trans Bx;refine wW 0 (iv (oE (Rep.foldO (CC i) (LQ i)) : Int)) 1 (iv (oE (Rep.foldO (CC i) (LQ i)) : Int)) hR hS ?_;refine wL 2 (.bool false) hR (fun w _ => ev_nne (show _ = Result.ok (Next.value (Value.bool ((oE (Rep.foldO (CC i) (LQ i)) : Int) != (oE (Rep.foldO (CC i) (LQ i)) : Int)))) _ from by kernel_rfl) (rfl)) hS ?_;refine wW 3 (.bool false) 4 (.slice Iu Ly Lv) hR hS ?_;refine wV 5 (.slice Iv Lz Lw) hR hS ?_;refine wC 6 15 #[.slice Iu Ly Lv, .slice Iv Lz Lw] hR ((SameRecords_r _ _ _ ((Mo.ext (Cn.trans Bx))) (Ext.refl _) ((Mp.ext Bx)) (Ext.refl _) (decide_eq_true rfl)).mono ?_);rintro e Rg ⟨rfl, hb⟩;refine mv2 hb hE Bx fun hE Bx=>?_;have Em := hb.size;have hS := Gf.trans Bx;refine ⟨_, rfl, hS, ?_⟩;refine wW 7 (.bool false) 8 (.bool false) hR hS ?_;refine wV 9 (.bool false) hR hS ?_;refine wM 10 (.agg #[iv (CC i : Int), .slice a9 n9 c9]) hR (fun w hS => ld25 (B3.c hS) (B2.c hS)) hS ?_;refine wM 12 (.agg #[iv (CC i : Int), .slice a9 n9 c9]) hR (fun w hS => ld25 (B3.c hS) (B2.c hS)) hS ?_;have Kj := Bg.trans Gf;refine wC 11 16 #[.agg #[iv (CC i : Int), .slice a9 n9 c9]] hR ((Valid_r (r := Rep.validB (CC i) (LQ i)) _ _ ((H9.ext (Kj.trans Bx))) (Ext.refl _) (hRl.ext hE) rfl).mono ?_);rintro e Rh ⟨rfl, hb⟩;refine mv2 hb hE Bx fun hE Bx=>?_;have En := hb.size;refine ⟨_, rfl, Gf.trans Bx, ?_⟩;refine wC 13 17 #[.agg #[iv (CC i : Int), .slice a9 n9 c9]] hR ((rValid_r (r := Rep.validB (CC i) (LQ i)) _ _ ((H9.ext (Kj.trans Bx))) (Ext.refl _) rfl).mono ?_);rintro e M5 ⟨rfl, hb⟩;refine mv2 hb hE Bx fun hE Bx=>?_;have Eo := hb.size;have hS := Gf.trans Bx;refine ⟨_, rfl, hS, ?_⟩;refine wL 14 (.bool false) hR (fun w _ => ev_bool (show _ = Result.ok (Next.value (Value.bool ((Rep.validB (CC i) (LQ i)) != (Rep.validB (CC i) (LQ i))))) _ from by kernel_rfl) (bne_self_eq_false _)) hS ?_;refine wV 15 (.bool false) hR hS ?_;refine we hL hR hK ?_;refine zq (cK [3,4,7,11,12,13,14,84] (fun L => ?_));refine zf ?_;refine cw_skip (qw_then ?_);refine cw_seq ?_;have F3 := Ext.refl M5;refine cw_plain ?_;have Ms := Cn.trans Bx;have Cc := Cm.trans Ms;refine pU (.agg #[iv (CC i : Int), .slice a9 n9 c9]) (xl (ld25 (B3.c (Cc.trans F3)) (B2.c (Cc.trans F3)))) ?_;refine pT (pw O5 0) ?_;have C6 := Bg.trans Cc;have Mt := Cx.trans C6;have Mu := Dk.trans Mt;have Fr := Dd.trans Mu;refine pU (iv f0) (xl (ld3 (C7.c (Fr.trans F3)))) ?_;refine pT (pw O5 3) ?_;refine pU (iv f3) (xl (ld3 (Cf.c (Fr.trans F3)))) ?_;refine pT (.string tx) ?_;refine pS (sc 18 #[.agg #[iv (CC i : Int), .slice a9 n9 c9], iv f0, iv f3, .string tx] ((Add_t _ ((H9.ext (C6.trans F3))) (Ext.refl _) (hRl.ext hE)).mono ?_));rintro e Pd ⟨Ic, Ik, Ij, rfl, Mq, Ny, hb⟩;refine mv2 hb hE F3 fun hE F3=>?_;have D3 := hb.size;have Dl := Ext.refl Pd;refine ⟨_, rfl, pD (.tuple #[.agg #[iv (oC (CC i) (Rep.addF (CC i) (LQ i) ⟨0, 0, f0, -1, 0, f3, tx⟩) : Int), .slice Ic Ik Ij], iv (oE (Rep.addF (CC i) (LQ i) ⟨0, 0, f0, -1, 0, f3, tx⟩) : Int)]) (.agg #[iv (oC (CC i) (Rep.addF (CC i) (LQ i) ⟨0, 0, f0, -1, 0, f3, tx⟩) : Int), .slice Ic Ik Ij]) ?_⟩;refine pT (iv (oE (Rep.addF (CC i) (LQ i) ⟨0, 0, f0, -1, 0, f3, tx⟩) : Int)) ?_
  refine pS (sw 25 #[iv 0, .slice none 0 0] ?_);intro Ec Pq Dq P4 hb hbx;have ⟨Ci, Cs⟩ := bq2 hbx;refine mv2 hb hE Dl fun hE Dl=>?_;have Ep := hb.size;have Df := Ci.lt;refine pP (sn_set2 (O := Ec) (j := 0) (v := iv (oC (CC i) (Rep.addF (CC i) (LQ i) ⟨0, 0, f0, -1, 0, f3, tx⟩) : Int)) (v' := .slice Ic Ik Ij) (xt (pw Ec 0) (.agg #[iv (oC (CC i) (Rep.addF (CC i) (LQ i) ⟨0, 0, f0, -1, 0, f3, tx⟩) : Int), .slice Ic Ik Ij]) (st25 Ci.1 Ci.2 Cs.1 Cs.2)) Ci Cs ?_);intro Pr ho Ci Cs hk;replace hE := ho.ext hE (by omega);replace Dl := ho.ext Dl (Nat.le_of_eq Dq);have C4 := Nat.le_of_eq ho.size.symm;clear ho hk;refine pT (iv (oE (Rep.addF (CC i) (LQ i) ⟨0, 0, f0, -1, 0, f3, tx⟩) : Int)) ?_;refine zn (cK [3,4,7,11,12,13,14,19,20] (fun L => ?_));refine zc (cw_plain ?_);have Mw := Bx.trans F3;have Mx := Cn.trans Mw;have Ih := Cm.trans Mx;refine pU (.agg #[iv (CC i : Int), .slice a9 n9 c9]) (xl (ld25 (B3.c (Ih.trans Dl)) (B2.c (Ih.trans Dl)))) ?_;refine pT (pw O5 0) ?_;have Hr := Bg.trans Ih;have J9 := Cx.trans Hr;have Ja := Dk.trans J9;have Hs := Dd.trans Ja;refine pU (iv f0) (xl (ld3 (C7.c (Hs.trans Dl)))) ?_;refine pT (pw O5 3) ?_;refine pU (iv f3) (xl (ld3 (Cf.c (Hs.trans Dl)))) ?_;refine pT (.string tx) ?_;refine pS (sc 19 #[.agg #[iv (CC i : Int), .slice a9 n9 c9], iv f0, iv f3, .string tx] ((rAdd_t _ ((H9.ext (Hr.trans Dl))) (Ext.refl _) Nm).mono ?_));rintro e M0 ⟨Fh, G0, Fv, rfl, Iy, Mz, hb⟩;refine mv4 hb hE Dl Ci Cs fun hE Dl Ci Cs=>?_;have Bf := hb.size;have Ck := Ext.refl M0;refine ⟨_, rfl, pD (.tuple #[.agg #[iv (oC (CC i) (Rep.addF (CC i) (LQ i) ⟨0, 0, f0, -1, 0, f3, tx⟩) : Int), .slice Fh G0 Fv], iv (oE (Rep.addF (CC i) (LQ i) ⟨0, 0, f0, -1, 0, f3, tx⟩) : Int)]) (.agg #[iv (oC (CC i) (Rep.addF (CC i) (LQ i) ⟨0, 0, f0, -1, 0, f3, tx⟩) : Int), .slice Fh G0 Fv]) ?_⟩;refine pT (iv (oE (Rep.addF (CC i) (LQ i) ⟨0, 0, f0, -1, 0, f3, tx⟩) : Int)) ?_;refine pS (sw 25 #[iv 0, .slice none 0 0] ?_);intro Ch M7 Be Nb hb hbx;have ⟨C2, C5⟩ := bq2 hbx;refine mv2 hb hE Ck fun hE Ck=>?_;have Eb := hb.size;have Gd := C2.lt;refine pP (sn_set2 (O := Ch) (j := 0) (v := iv (oC (CC i) (Rep.addF (CC i) (LQ i) ⟨0, 0, f0, -1, 0, f3, tx⟩) : Int)) (v' := .slice Fh G0 Fv) (xt (pw Ch 0) (.agg #[iv (oC (CC i) (Rep.addF (CC i) (LQ i) ⟨0, 0, f0, -1, 0, f3, tx⟩) : Int), .slice Fh G0 Fv]) (st25 C2.1 C2.2 C5.1 C5.2)) C2 C5 ?_);intro M8 ho C2 C5 hk;replace hE := ho.ext hE (by omega);replace Ck := ho.ext Ck (Nat.le_of_eq Be);have Cy := Nat.le_of_eq ho.size.symm;clear ho hk;refine pT (iv (oE (Rep.addF (CC i) (LQ i) ⟨0, 0, f0, -1, 0, f3, tx⟩) : Int)) ?_;refine zn (cK [3,4,7,11,12,13,14,19,20,21,22] (fun L => ?_));refine zc (zc (zp (pD (iv (oE (Rep.addF (CC i) (LQ i) ⟨0, 0, f0, -1, 0, f3, tx⟩) : Int)) (iv (oE (Rep.addF (CC i) (LQ i) ⟨0, 0, f0, -1, 0, f3, tx⟩) : Int)) ?_)));refine pU (.bool false) (ev_nne (show _ = Result.ok (Next.value (Value.bool ((oE (Rep.addF (CC i) (LQ i) ⟨0, 0, f0, -1, 0, f3, tx⟩) : Int) != (oE (Rep.addF (CC i) (LQ i) ⟨0, 0, f0, -1, 0, f3, tx⟩) : Int)))) _ from by kernel_rfl) (rfl)) ?_;refine pT (.bool false) ?_;refine pU (.agg #[iv (oC (CC i) (Rep.addF (CC i) (LQ i) ⟨0, 0, f0, -1, 0, f3, tx⟩) : Int), .slice Ic Ik Ij]) (xl (ld25 (Ci.c Ck) (Cs.c Ck))) ?_;refine pU (.agg #[iv (oC (CC i) (Rep.addF (CC i) (LQ i) ⟨0, 0, f0, -1, 0, f3, tx⟩) : Int), .slice Fh G0 Fv]) (xl (ld25 (C2.1) (C5.1))) ?_;refine pS (sc 20 #[.agg #[iv (oC (CC i) (Rep.addF (CC i) (LQ i) ⟨0, 0, f0, -1, 0, f3, tx⟩) : Int), .slice Ic Ik Ij], .agg #[iv (oC (CC i) (Rep.addF (CC i) (LQ i) ⟨0, 0, f0, -1, 0, f3, tx⟩) : Int), .slice Fh G0 Fv]] ((rSame_r _ _ _ ((Mq.ext (Dl.trans Ck))) (Ext.refl _) ((Iy.ext Ck)) (Ext.refl _) (decide_eq_true ⟨rfl, rfl⟩)).mono ?_));rintro e M1 ⟨rfl, hb⟩;refine mv4 hb hE Ck C2 C5 fun hE Ck C2 C5=>?_;have Cz := hb.size;refine ⟨_, rfl, pD (.bool false) (.bool false) ?_⟩;refine zn (cK [3,4,7,11,12,13,14,19,21,113] (fun L => ?_));refine zf ?_;refine cw_skip (zq (cw_seq ?_));refine cw_seq ?_;have C0 := Ext.refl M1;have Jb := Dl.trans Ck;have Ht := F3.trans Jb;have Jc := Bx.trans Ht;have Jd := Cn.trans Jc;have Je := Cm.trans Jd;have Jf := Bg.trans Je;have Jg := Cx.trans Jf;have Jh := Dk.trans Jg;have Ev := Dd.trans Jh;refine dE Tz80_2 (fun w' => Ext w9 w') (Ext.drew (Ev.trans C0)) (fun ops Q Pe hb hL hR hK => ?_);refine mv2 hb hE C0 fun hE C0=>?_;have D0 := hb.size;have hS := Ev.trans C0;refine wV 0 (pw O5 1) hR hS ?_;refine wM 1 (iv f1) hR (fun w hS => ld3 (Es.c hS)) hS ?_;refine wV 2 (pw O5 2) hR hS ?_;refine wM 3 (iv f2) hR (fun w hS => ld3 (G6.c hS)) hS ?_;refine wW 4 (.agg #[iv f1, iv f2]) 5 (pw O5 1) hR hS ?_;refine wM 6 (iv f1) hR (fun w hS => ld3 (Es.c hS)) hS ?_;refine wV 8 (pw O5 2) hR hS ?_;refine wM 9 (iv f2) hR (fun w hS => ld3 (G6.c hS)) hS ?_;refine wV 15 (iv 0) hR hS ?_;refine wC 7 21 #[iv f1, iv 3] hR ((lpick_c (c := f1) (n := 3) _ Nn (by omega)).mono ?_);rintro e Qj ⟨rfl, hb⟩;refine mv2 hb hE C0 fun hE C0=>?_;have D1 := hb.size;refine ⟨_, rfl, Ev.trans C0, ?_⟩;refine wC 10 21 #[iv f2, iv 6] hR ((lpick_c (c := f2) (n := 6) _ Np (by omega)).mono ?_);rintro e Qk ⟨rfl, hb⟩;refine mv2 hb hE C0 fun hE C0=>?_;have D2 := hb.size;have hS := Ev.trans C0;refine ⟨_, rfl, hS, ?_⟩;refine wL 11 (iv ((1 + Rep.pk f2 6 : Nat) : Int)) hR (fun w _ => ev_wrap (by kernel_rfl) (by omega) (by omega)) hS ?_;refine wV 12 (.agg #[iv ((Rep.pk f1 3 : Nat) : Int), iv ((1 + Rep.pk f2 6 : Nat) : Int)]) hR hS ?_
  refine wS 13 hR (sn_newS (us := #[iv f1, iv f2, iv ((Rep.pk f1 3 : Nat) : Int), iv ((1 + Rep.pk f2 6 : Nat) : Int)]) (t := 39) (k := 2) (c := 2) (by kernel_rfl) ?_);intro Ge M9 H4 Nd hb hbx;have ⟨G5, Hi, Hj, Hk⟩ := bq4 hbx;refine mv2 hb hE C0 fun hE C0=>?_;have Dj := hb.size;have Hd := G5.lt;refine ⟨(Ev.trans C0), ?_⟩;refine wV 14 (iv 2) hR (Ev.trans C0) ?_;refine we hL hR hK ?_;refine zq (cK [3,4,7,11,12,13,14,19,21,127,128,129] (fun L => ?_));refine cw_block ?_;obtain ⟨qp, hIP⟩ := IB.four (G5).1 (Hi).1 (Hj).1 (Hk).1 Nn Np (isI_pk (by decide) (by decide)) (isI_pk1 (by decide) (by decide));have Et := (Ci.x (Ck.trans C0));have Eu := (Cs.x (Ck.trans C0));have E1 := (C2.x C0);have E2 := (C5.x C0);have Bc := (Ht.trans C0);refine cw_loop [3, 4, 7, 11, 12, 13, 14, 19, 21, 127, 128, 129] (fun ws' wr m => ∃ q : Nat, ∃ xps : Int, ∃ aps : Option Addr, ∃ mps kps : Nat, ∃ xqs : Int, ∃ aqs : Option Addr, ∃ mqs kqs : Nat, ws' = [(3, .string tx), (4, .string s4), (7, pw O5 0), (11, .bool true), (12, sv Cj 0 4 Bb), (13, iv i), (14, pw E0 0), (19, pw Ec 0), (21, pw Ch 0), (127, sv Ge 0 2 2), (128, iv 2), (129, iv q)] ∧ m = 2 - q ∧ M9.heap.size ≤ wr.heap.size ∧ Ext w wr ∧ Ext M5 wr ∧ IB wr Ge 0 4 qp ∧ BoxAt wr Ec 0 (iv xps) ∧ BoxAt wr Ec 1 (.slice aps mps kps) ∧ BoxAt wr Ch 0 (iv xqs) ∧ BoxAt wr Ch 1 (.slice aqs mqs kqs) ∧ q ≤ 2) (ws0 := [(3, .string tx), (4, .string s4), (7, pw O5 0), (11, .bool true), (12, sv Cj 0 4 Bb), (13, iv i), (14, pw E0 0), (19, pw Ec 0), (21, pw Ch 0), (127, sv Ge 0 2 2), (128, iv 2), (129, iv 0)]) (by kernel_rfl) _ ⟨0, (oC (CC i) (Rep.addF (CC i) (LQ i) ⟨0, 0, f0, -1, 0, f3, tx⟩)), Ic, Ik, Ij, (oC (CC i) (Rep.addF (CC i) (LQ i) ⟨0, 0, f0, -1, 0, f3, tx⟩)), Fh, G0, Fv, rfl, rfl, Nat.le_refl _, hE, Bc, hIP, Et, Eu, E1, E2, Nat.zero_le _⟩ ?_;clear Et Eu E1 E2 hIP hE Bc;rintro Qe L ws Ni ⟨q, xps, aps, mps, kps, xqs, aqs, mqs, kqs, rfl, rfl, Cq, hE, Bc, hIP, E7, E8, E9, Ea, Q5⟩
  by_cases hlt : q < 2
  ·
   refine zc (zp (pU (.bool true) (ed (((q : Nat) : Int) < (2 : Int)) (by omega)) ?_));refine zn (zc (zt ?_));refine cw_skip (zq (zc (cw_block ?_)));refine cw_seq ?_;have Gx := (hIP).c (i := q * 2) (by omega);have Gy := (hIP).c (i := q * 2 + 1) (by omega);refine zp (pU (pw Ge (q * 2)) (xi (sv Ge 0 2 2) (iv q) (ix41z (k := q) (by omega))) ?_);refine pU (.agg #[iv (qp (q * 2) : Int), iv (qp (q * 2 + 1) : Int)]) (xl (ld39 (Gx) (Gy))) ?_;refine pS (sw 39 #[iv 0, iv 0] ?_);intro Da Ma Cd Nf hb hbx;have ⟨By, C3⟩ := bq2 hbx;refine mv7 hb hE Bc hIP E7 E8 E9 Ea fun hE Bc hIP E7 E8 E9 Ea=>?_;have Kl := hb.size;have P6 := By.lt;refine pP (sn_set2 (O := Da) (j := 0) (v := iv (qp (q * 2) : Int)) (v' := iv (qp (q * 2 + 1) : Int)) (xt (pw Da 0) (.agg #[iv (qp (q * 2) : Int), iv (qp (q * 2 + 1) : Int)]) (st39 By.1 By.2 C3.1 C3.2)) By C3 ?_);intro I9 ho By C3 hk;replace hE := ho.ext hE (by omega);replace Bc := ho.ext Bc (by omega);replace hIP := hIP.turn ho (by omega);replace E7 := ho.box (by omega) E7;replace E8 := ho.box (by omega) E8;replace E9 := ho.box (by omega) E9;replace Ea := ho.box (by omega) Ea;have Km := Nat.le_of_eq ho.size.symm;clear ho hk;refine zn (cK [3,4,7,11,12,13,14,19,21,24,127,128,129] (fun L => ?_));refine cw_seq ?_;have Ba := Ext.refl I9;have Ji := Bx.trans Bc;have Jj := Cn.trans Ji;have E5 := Cm.trans Jj;have Hu := Bg.trans E5;have Jk := Cx.trans Hu;have Jl := Dk.trans Jk;have Ew := Dd.trans Jl;refine dE Tz80_3 (fun w' => w'.cell? ⟨E0, 0, none⟩ = some (iv (CC i : Int)) ∧ w'.cell? ⟨E0, 1, none⟩ = some (.slice a9 n9 c9) ∧ w'.cell? ⟨O5, 0, none⟩ = some (iv f0) ∧ w'.cell? ⟨Da, 0, none⟩ = some (iv (qp (q * 2) : Int)) ∧ w'.cell? ⟨Da, 1, none⟩ = some (iv (qp (q * 2 + 1) : Int)) ∧ w'.cell? ⟨O5, 3, none⟩ = some (iv f3)) (⟨(B3.x (E5.trans Ba)).1, (B2.x (E5.trans Ba)).1, (C7.x (Ew.trans Ba)).1, By.1, C3.1, (Cf.x (Ew.trans Ba)).1⟩) (fun ops Q Pf hb hL hR hK => ?_);refine mv2 hb hE Ba fun hE Ba=>?_;have Kn := hb.size;have Dg := A6 (B3.c (E5.trans Ba)) (B2.c (E5.trans Ba)) (C7.c (Ew.trans Ba)) (By.c Ba) (C3.c Ba) (Cf.c (Ew.trans Ba));refine wM 0 (.agg #[iv (CC i : Int), .slice a9 n9 c9]) hR (fun w hS => ld25 (hS.1) (hS.2.1)) Dg ?_;refine wV 1 (pw O5 0) hR Dg ?_;refine wM 2 (iv f0) hR (fun w hS => ld3 (hS.2.2.1)) Dg ?_;refine wV 3 (pw Da 0) hR Dg ?_;refine wM 4 (iv (qp (q * 2) : Int)) hR (fun w hS => ld3 (hS.2.2.2.1)) Dg ?_;refine wV 5 (pw Da 1) hR Dg ?_;refine wM 6 (iv (qp (q * 2 + 1) : Int)) hR (fun w hS => ld3 (hS.2.2.2.2.1)) Dg ?_;refine wV 7 (pw O5 3) hR Dg ?_;refine wM 8 (iv f3) hR (fun w hS => ld3 (hS.2.2.2.2.2)) Dg ?_;refine wV 10 (.string tx) hR Dg ?_;refine wC 9 21 #[iv f3, iv 16] hR ((lpick_c (c := f3) (n := 16) _ Nq (by omega)).mono ?_);rintro e Ql ⟨rfl, hb⟩;refine mv2 hb hE Ba fun hE Ba=>?_;have Ko := hb.size;have J7 := A6 (B3.c (E5.trans Ba)) (B2.c (E5.trans Ba)) (C7.c (Ew.trans Ba)) (By.c Ba) (C3.c Ba) (Cf.c (Ew.trans Ba));refine ⟨_, rfl, J7, ?_⟩;refine wC 11 22 #[.agg #[iv (CC i : Int), .slice a9 n9 c9], iv f0, iv (qp (q * 2) : Int), iv (qp (q * 2 + 1) : Int), iv ((Rep.pk f3 16 : Nat) : Int), .string tx] hR ((Correct_t _ ((H9.ext (Hu.trans Ba))) (Ext.refl _) (hRl.ext hE)).mono ?_);rintro e Il ⟨Fi, G1, Fw, rfl, Iz, N0, hb⟩;refine mv2 hb hE Ba fun hE Ba=>?_;have Kq := hb.size;have Cg := Ext.refl Il;have Hv := Bc.trans Ba;have Jm := Bx.trans Hv;have Jn := Cn.trans Jm;have Gr := Cm.trans Jn;have Jo := Bg.trans Gr;have Jp := Cx.trans Jo;have Jq := Dk.trans Jp;have Hw := Dd.trans Jq;have G7 := A6 (B3.c (Gr.trans Cg)) (B2.c (Gr.trans Cg)) (C7.c (Hw.trans Cg)) (By.c (Ba.trans Cg)) (C3.c (Ba.trans Cg)) (Cf.c (Hw.trans Cg));refine ⟨_, rfl, G7, ?_⟩;refine wW 12 (.tuple #[.agg #[iv (oC (CC i) (Rep.corrF (CC i) (LQ i) ⟨0, 0, f0, qp (q * 2), qp (q * 2 + 1), ((Rep.pk f3 16 : Nat) : Int), tx⟩) : Int), .slice Fi G1 Fw], iv (oE (Rep.corrF (CC i) (LQ i) ⟨0, 0, f0, qp (q * 2), qp (q * 2 + 1), ((Rep.pk f3 16 : Nat) : Int), tx⟩) : Int)]) 13 (.agg #[iv (oC (CC i) (Rep.corrF (CC i) (LQ i) ⟨0, 0, f0, qp (q * 2), qp (q * 2 + 1), ((Rep.pk f3 16 : Nat) : Int), tx⟩) : Int), .slice Fi G1 Fw]) hR G7 ?_;refine wV 14 (iv (oE (Rep.corrF (CC i) (LQ i) ⟨0, 0, f0, qp (q * 2), qp (q * 2 + 1), ((Rep.pk f3 16 : Nat) : Int), tx⟩) : Int)) hR G7 ?_;have F2 := (hIP.ext (Ba.trans Cg));have Gg := (E7.x (Ba.trans Cg));have Gi := (E8.x (Ba.trans Cg));have Dm := (E9.x (Ba.trans Cg));have Dn := (Ea.x (Ba.trans Cg));have Bh := (By.x (Ba.trans Cg));have Bi := (C3.x (Ba.trans Cg));have Fq := Iz;have Do := (Hv.trans Cg);have C1 := Gg;have Bn := Gi;refine wS 15 hR (sn_set2C (O := Ec) (j := 0) (v := iv (oC (CC i) (Rep.corrF (CC i) (LQ i) ⟨0, 0, f0, qp (q * 2), qp (q * 2 + 1), ((Rep.pk f3 16 : Nat) : Int), tx⟩) : Int)) (v' := .slice Fi G1 Fw) (ex_store (p := pw Ec 0) (v := .agg #[iv (oC (CC i) (Rep.corrF (CC i) (LQ i) ⟨0, 0, f0, qp (q * 2), qp (q * 2 + 1), ((Rep.pk f3 16 : Nat) : Int), tx⟩) : Int), .slice Fi G1 Fw]) rfl (by kernel_rfl) (by kernel_rfl) (st25 C1.1 C1.2 Bn.1 Bn.2)) C1 Bn ?_);intro Ia Ce Mj Ml F4;replace Fq := Fq.keep2 Bn.1 F4;replace hE := Ce.ext hE (by omega);replace Do := Ce.ext Do (T D3 (Nat.le_of_eq Dq));replace F2 := F2.turn Ce (by omega);replace Dm := Ce.box (by omega) Dm;replace Dn := Ce.box (by omega) Dn
   have q9 := fun ⦃j : Nat⦄ ⦃v : Value⦄ (h : BoxAt _ Da j v) => Ce.box (by omega) h
   replace Bh := q9 Bh;replace Bi := q9 Bi;clear q9;have Kr : Il.heap.size ≤ Ia.heap.size := Nat.le_of_eq Ce.size.symm;clear Ce C1 Bn F4;have Hn := A6 (B3.c (Cc.trans Do)) (B2.c (Cc.trans Do)) (C7.c (Fr.trans Do)) (Bh.1) (Bi.1) (Cf.c (Fr.trans Do));refine ⟨Hn, ?_⟩;refine wV 16 (iv (oE (Rep.corrF (CC i) (LQ i) ⟨0, 0, f0, qp (q * 2), qp (q * 2 + 1), ((Rep.pk f3 16 : Nat) : Int), tx⟩) : Int)) hR Hn ?_;refine we hL hR hK ?_;refine zq (cK [3,4,7,11,12,13,14,19,20,21,24,127,128,129] (fun L => ?_));refine cw_seq ?_;have B8 := Ext.refl Ia;have Jr := Bx.trans Do;have Js := Cn.trans Jr;have E6 := Cm.trans Js;have Hx := Bg.trans E6;have Jt := Cx.trans Hx;have Ju := Dk.trans Jt;have Ey := Dd.trans Ju;refine dE Tz80_4 (fun w' => w'.cell? ⟨E0, 0, none⟩ = some (iv (CC i : Int)) ∧ w'.cell? ⟨E0, 1, none⟩ = some (.slice a9 n9 c9) ∧ w'.cell? ⟨O5, 0, none⟩ = some (iv f0) ∧ w'.cell? ⟨Da, 0, none⟩ = some (iv (qp (q * 2) : Int)) ∧ w'.cell? ⟨Da, 1, none⟩ = some (iv (qp (q * 2 + 1) : Int)) ∧ w'.cell? ⟨O5, 3, none⟩ = some (iv f3)) (⟨(B3.x (E6.trans B8)).1, (B2.x (E6.trans B8)).1, (C7.x (Ey.trans B8)).1, Bh.1, Bi.1, (Cf.x (Ey.trans B8)).1⟩) (fun ops Q Ph hb hL hR hK => ?_);refine mv2 hb hE B8 fun hE B8=>?_;have Ks := hb.size;have Dh := A6 (B3.c (E6.trans B8)) (B2.c (E6.trans B8)) (C7.c (Ey.trans B8)) (Bh.c B8) (Bi.c B8) (Cf.c (Ey.trans B8));refine wM 0 (.agg #[iv (CC i : Int), .slice a9 n9 c9]) hR (fun w hS => ld25 (hS.1) (hS.2.1)) Dh ?_;refine wV 1 (pw O5 0) hR Dh ?_;refine wM 2 (iv f0) hR (fun w hS => ld3 (hS.2.2.1)) Dh ?_;refine wV 3 (pw Da 0) hR Dh ?_;refine wM 4 (iv (qp (q * 2) : Int)) hR (fun w hS => ld3 (hS.2.2.2.1)) Dh ?_;refine wV 5 (pw Da 1) hR Dh ?_;refine wM 6 (iv (qp (q * 2 + 1) : Int)) hR (fun w hS => ld3 (hS.2.2.2.2.1)) Dh ?_;refine wV 7 (pw O5 3) hR Dh ?_;refine wM 8 (iv f3) hR (fun w hS => ld3 (hS.2.2.2.2.2)) Dh ?_;refine wV 10 (.string tx) hR Dh ?_;refine wC 9 21 #[iv f3, iv 16] hR ((lpick_c (c := f3) (n := 16) _ Nq (by omega)).mono ?_);rintro e Qm ⟨rfl, hb⟩;refine mv2 hb hE B8 fun hE B8=>?_;have Kt := hb.size;have J8 := A6 (B3.c (E6.trans B8)) (B2.c (E6.trans B8)) (C7.c (Ey.trans B8)) (Bh.c B8) (Bi.c B8) (Cf.c (Ey.trans B8));refine ⟨_, rfl, J8, ?_⟩;refine wC 11 23 #[.agg #[iv (CC i : Int), .slice a9 n9 c9], iv f0, iv (qp (q * 2) : Int), iv (qp (q * 2 + 1) : Int), iv ((Rep.pk f3 16 : Nat) : Int), .string tx] hR ((rCorrect_t _ ((H9.ext (Hx.trans B8))) (Ext.refl _) Nm).mono ?_);rintro e Im ⟨Fj, G2, Fx, rfl, J0, N1, hb⟩;refine mv2 hb hE B8 fun hE B8=>?_;have Ku := hb.size;have Ca := Ext.refl Im;have Hy := Do.trans B8;have Jv := Bx.trans Hy;have Jw := Cn.trans Jv;have Gs := Cm.trans Jw;have Jy := Bg.trans Gs;have Jz := Cx.trans Jy;have K0 := Dk.trans Jz;have Hz := Dd.trans K0;have G8 := A6 (B3.c (Gs.trans Ca)) (B2.c (Gs.trans Ca)) (C7.c (Hz.trans Ca)) (Bh.c (B8.trans Ca)) (Bi.c (B8.trans Ca)) (Cf.c (Hz.trans Ca));refine ⟨_, rfl, G8, ?_⟩;refine wW 12 (.tuple #[.agg #[iv (oC (CC i) (Rep.corrF (CC i) (LQ i) ⟨0, 0, f0, qp (q * 2), qp (q * 2 + 1), ((Rep.pk f3 16 : Nat) : Int), tx⟩) : Int), .slice Fj G2 Fx], iv (oE (Rep.corrF (CC i) (LQ i) ⟨0, 0, f0, qp (q * 2), qp (q * 2 + 1), ((Rep.pk f3 16 : Nat) : Int), tx⟩) : Int)]) 13 (.agg #[iv (oC (CC i) (Rep.corrF (CC i) (LQ i) ⟨0, 0, f0, qp (q * 2), qp (q * 2 + 1), ((Rep.pk f3 16 : Nat) : Int), tx⟩) : Int), .slice Fj G2 Fx]) hR G8 ?_;refine wV 14 (iv (oE (Rep.corrF (CC i) (LQ i) ⟨0, 0, f0, qp (q * 2), qp (q * 2 + 1), ((Rep.pk f3 16 : Nat) : Int), tx⟩) : Int)) hR G8 ?_;have Bj := (F2.ext (B8.trans Ca));have Fs := (Dm.x (B8.trans Ca));have Ft := (Dn.x (B8.trans Ca));have B4 := (Bh.x (B8.trans Ca));have B7 := (Bi.x (B8.trans Ca));have Bz := (Fq.ext (B8.trans Ca));have Ct := (Mj.x (B8.trans Ca));have Cu := (Ml.x (B8.trans Ca));have C8 := J0;have Cl := (Hy.trans Ca);have C1 := Fs;have Bn := Ft;refine wS 15 hR (sn_set2C (O := Ch) (j := 0) (v := iv (oC (CC i) (Rep.corrF (CC i) (LQ i) ⟨0, 0, f0, qp (q * 2), qp (q * 2 + 1), ((Rep.pk f3 16 : Nat) : Int), tx⟩) : Int)) (v' := .slice Fj G2 Fx) (ex_store (p := pw Ch 0) (v := .agg #[iv (oC (CC i) (Rep.corrF (CC i) (LQ i) ⟨0, 0, f0, qp (q * 2), qp (q * 2 + 1), ((Rep.pk f3 16 : Nat) : Int), tx⟩) : Int), .slice Fj G2 Fx]) rfl (by kernel_rfl) (by kernel_rfl) (st25 C1.1 C1.2 Bn.1 Bn.2)) C1 Bn ?_);intro Mb Ce Ed Ee F4;replace Bz := Bz.keep2 Bn.1 F4;replace C8 := C8.keep2 Bn.1 F4;replace hE := Ce.ext hE (by omega);replace Cl := Ce.ext Cl (by omega);replace Bj := Bj.turn Ce (by omega);have q9 := fun ⦃j : Nat⦄ ⦃v : Value⦄ (h : BoxAt _ Da j v) => Ce.box (by omega) h
   replace B4 := q9 B4;replace B7 := q9 B7;clear q9;replace Ct := Ce.box (by omega) Ct;replace Cu := Ce.box (by omega) Cu;have Kv : Im.heap.size ≤ Mb.heap.size := Nat.le_of_eq Ce.size.symm;clear Ce C1 Bn F4;have Ho := A6 (B3.c (Cc.trans Cl)) (B2.c (Cc.trans Cl)) (C7.c (Fr.trans Cl)) (B4.1) (B7.1) (Cf.c (Fr.trans Cl));refine ⟨Ho, ?_⟩;refine wV 16 (iv (oE (Rep.corrF (CC i) (LQ i) ⟨0, 0, f0, qp (q * 2), qp (q * 2 + 1), ((Rep.pk f3 16 : Nat) : Int), tx⟩) : Int)) hR Ho ?_;refine we hL hR hK ?_;refine zq (cK [3,4,7,11,12,13,14,19,20,21,22,24,127,128,129] (fun L => ?_));refine zc (zp (pU (.agg #[iv (CC i : Int), .slice a9 n9 c9]) (xl (ld25 (B3.c (Cc.trans Cl)) (B2.c (Cc.trans Cl)))) ?_));refine pT (pw Da 0) ?_;refine pU (iv (qp (q * 2) : Int)) (xl (ld3 (B4.1))) ?_;refine pT (pw Da 1) ?_;refine pU (iv (qp (q * 2 + 1) : Int)) (xl (ld3 (B7.1))) ?_;refine pS (sc 24 #[.agg #[iv (CC i : Int), .slice a9 n9 c9], iv (qp (q * 2) : Int), iv (qp (q * 2 + 1) : Int)] ((History_t _ ((H9.ext (C6.trans Cl))) (Ext.refl _) (hRl.ext hE)).mono ?_));rintro e M2 ⟨Gm, He, H6, rfl, J1, N2, hb⟩;refine mv9 hb hE Cl Bj B4 B7 Ct Cu Bz C8 fun hE Cl Bj B4 B7 Ct Cu Bz C8=>?_;refine mv2 hb Ed Ee fun Ed Ee=>?_;have Kw := hb.size;have E3 := Ext.refl M2;refine ⟨_, rfl, pD (.tuple #[.slice Gm He H6, iv (oE (Rep.histO (CC i) (LQ i) (qp (q * 2), qp (q * 2 + 1))) : Int)]) (.slice Gm He H6) ?_⟩;refine pD (iv (oE (Rep.histO (CC i) (LQ i) (qp (q * 2), qp (q * 2 + 1))) : Int)) (.slice Gm He H6) ?_;refine pT (iv (oE (Rep.histO (CC i) (LQ i) (qp (q * 2), qp (q * 2 + 1))) : Int)) ?_;refine zn (cK [3,4,7,11,12,13,14,15,16,19,20,21,22,24,127,128,129] (fun L => ?_));refine zc (cw_plain ?_);have K1 := Bx.trans Cl;have K3 := Cn.trans K1;have Gt := Cm.trans K3;refine pU (.agg #[iv (CC i : Int), .slice a9 n9 c9]) (xl (ld25 (B3.c (Gt.trans E3)) (B2.c (Gt.trans E3)))) ?_;refine pT (pw Da 0) ?_;refine pU (iv (qp (q * 2) : Int)) (xl (ld3 (B4.1))) ?_;refine pT (pw Da 1) ?_;refine pU (iv (qp (q * 2 + 1) : Int)) (xl (ld3 (B7.1))) ?_;have K4 := Bg.trans Gt;refine pS (sc 25 #[.agg #[iv (CC i : Int), .slice a9 n9 c9], iv (qp (q * 2) : Int), iv (qp (q * 2 + 1) : Int)] ((rHistory_t _ ((H9.ext (K4.trans E3))) (Ext.refl _)).mono ?_));rintro e M3 ⟨Gn, Hf, Ha, rfl, J2, N3, hb⟩;refine mv9 hb hE E3 Bj Ct Cu Bz C8 Ed Ee fun hE E3 Bj Ct Cu Bz C8 Ed Ee=>?_;have Kx := hb.size;have E4 := Ext.refl M3;refine ⟨_, rfl, pD (.tuple #[.slice Gn Hf Ha, iv (oE (Rep.histO (CC i) (LQ i) (qp (q * 2), qp (q * 2 + 1))) : Int)]) (.slice Gn Hf Ha) ?_⟩;refine pD (iv (oE (Rep.histO (CC i) (LQ i) (qp (q * 2), qp (q * 2 + 1))) : Int)) (.slice Gn Hf Ha) ?_;refine pT (iv (oE (Rep.histO (CC i) (LQ i) (qp (q * 2), qp (q * 2 + 1))) : Int)) ?_;refine zn (cK [3,4,7,11,12,13,14,15,16,17,18,19,20,21,22,127,128,129] (fun L => ?_));refine zc (zp (pD (iv (oE (Rep.corrF (CC i) (LQ i) ⟨0, 0, f0, qp (q * 2), qp (q * 2 + 1), ((Rep.pk f3 16 : Nat) : Int), tx⟩) : Int)) (iv (oE (Rep.corrF (CC i) (LQ i) ⟨0, 0, f0, qp (q * 2), qp (q * 2 + 1), ((Rep.pk f3 16 : Nat) : Int), tx⟩) : Int)) ?_));refine pU (.bool false) (ev_nne (show _ = Result.ok (Next.value (Value.bool ((oE (Rep.corrF (CC i) (LQ i) ⟨0, 0, f0, qp (q * 2), qp (q * 2 + 1), ((Rep.pk f3 16 : Nat) : Int), tx⟩) : Int) != (oE (Rep.corrF (CC i) (LQ i) ⟨0, 0, f0, qp (q * 2), qp (q * 2 + 1), ((Rep.pk f3 16 : Nat) : Int), tx⟩) : Int)))) _ from by kernel_rfl) (rfl)) ?_;refine pD (.bool false) (iv (oE (Rep.histO (CC i) (LQ i) (qp (q * 2), qp (q * 2 + 1))) : Int)) ?_;refine pT (iv (oE (Rep.histO (CC i) (LQ i) (qp (q * 2), qp (q * 2 + 1))) : Int)) ?_;refine pU (.bool false) (ev_nne (show _ = Result.ok (Next.value (Value.bool ((oE (Rep.histO (CC i) (LQ i) (qp (q * 2), qp (q * 2 + 1))) : Int) != (oE (Rep.histO (CC i) (LQ i) (qp (q * 2), qp (q * 2 + 1))) : Int)))) _ from by kernel_rfl) (rfl)) ?_;refine pD (.bool false) (.bool false) ?_;refine pU (.agg #[iv (oC (CC i) (Rep.corrF (CC i) (LQ i) ⟨0, 0, f0, qp (q * 2), qp (q * 2 + 1), ((Rep.pk f3 16 : Nat) : Int), tx⟩) : Int), .slice Fi G1 Fw]) (xl (ld25 (Ct.1) (Cu.1))) ?_;refine pU (.agg #[iv (oC (CC i) (Rep.corrF (CC i) (LQ i) ⟨0, 0, f0, qp (q * 2), qp (q * 2 + 1), ((Rep.pk f3 16 : Nat) : Int), tx⟩) : Int), .slice Fj G2 Fx]) (xl (ld25 (Ed.1) (Ee.1))) ?_;refine pS (sc 20 #[.agg #[iv (oC (CC i) (Rep.corrF (CC i) (LQ i) ⟨0, 0, f0, qp (q * 2), qp (q * 2 + 1), ((Rep.pk f3 16 : Nat) : Int), tx⟩) : Int), .slice Fi G1 Fw], .agg #[iv (oC (CC i) (Rep.corrF (CC i) (LQ i) ⟨0, 0, f0, qp (q * 2), qp (q * 2 + 1), ((Rep.pk f3 16 : Nat) : Int), tx⟩) : Int), .slice Fj G2 Fx]] ((rSame_r _ _ _ (Bz) (Ext.refl _) (C8) (Ext.refl _) (decide_eq_true ⟨rfl, rfl⟩)).mono ?_));rintro e Qn ⟨rfl, hb⟩;refine mv7 hb hE E4 Bj Ct Cu Ed Ee fun hE E4 Bj Ct Cu Ed Ee=>?_;have Ky := hb.size;refine ⟨_, rfl, pD (.bool false) (.bool false) ?_⟩;refine pD (.bool false) (.slice Gm He H6) ?_;refine pT (.slice Gn Hf Ha) ?_;refine pS (sc 15 #[.slice Gm He H6, .slice Gn Hf Ha] ((SameRecords_r _ _ _ ((J1.ext (E3.trans E4))) (Ext.refl _) ((J2.ext E4)) (Ext.refl _) (decide_eq_true rfl)).mono ?_));rintro e Qp ⟨rfl, hb⟩;refine mv7 hb hE E4 Bj Ct Cu Ed Ee fun hE E4 Bj Ct Cu Ed Ee=>?_;have Kz := hb.size;refine ⟨_, rfl, pD (.bool false) (.bool false) ?_⟩;refine zn (cK [3,4,7,11,12,13,14,19,21,127,128,129,200] (fun L => ?_));refine zf ?_;refine cw_skip (qw_block (zq (zp (pU (iv ((q + 1 : Nat) : Int)) (ew (by omega) (by omega)) ?_))));refine pT (iv ((q + 1 : Nat) : Int)) ?_;refine pl_nil ?_
   have K5 := Cl.trans E3;refine zr [3, 4, 7, 11, 12, 13, 14, 19, 21, 127, 128, 129] _ ?_ ⟨(q + 1), (oC (CC i) (Rep.corrF (CC i) (LQ i) ⟨0, 0, f0, qp (q * 2), qp (q * 2 + 1), ((Rep.pk f3 16 : Nat) : Int), tx⟩)), Fi, G1, Fw, (oC (CC i) (Rep.corrF (CC i) (LQ i) ⟨0, 0, f0, qp (q * 2), qp (q * 2 + 1), ((Rep.pk f3 16 : Nat) : Int), tx⟩)), Fj, G2, Fx, rfl, rfl, (by omega), hE, (K5.trans E4), Bj, Ct, Cu, Ed, Ee, by omega⟩;omega
  ·
   refine zc (zp (pU (.bool false) (en (((q : Nat) : Int) < (2 : Int)) (by omega)) ?_));refine zn (zc (zf ?_));refine cw_exit (qw_then_exit (qw_then_exit (qw_block_out (zq (zc (zc (zp (pT (iv 0) ?_))))))));refine zn (cw_block ?_);refine cw_loop [3, 4, 7, 11, 12, 13, 14, 19, 21, 25] (fun ws' wr m => ∃ j : Nat, ∃ xpt : Int, ∃ apt : Option Addr, ∃ mpt kpt : Nat, ∃ xqt : Int, ∃ aqt : Option Addr, ∃ mqt kqt : Nat, ws' = [(3, .string tx), (4, .string s4), (7, pw O5 0), (11, .bool true), (12, sv Cj 0 4 Bb), (13, iv i), (14, pw E0 0), (19, pw Ec 0), (21, pw Ch 0), (25, iv j)] ∧ m = 4 - j ∧ Ni.heap.size ≤ wr.heap.size ∧ Ext w wr ∧ Ext M5 wr ∧ BoxAt wr Ec 0 (iv xpt) ∧ BoxAt wr Ec 1 (.slice apt mpt kpt) ∧ BoxAt wr Ch 0 (iv xqt) ∧ BoxAt wr Ch 1 (.slice aqt mqt kqt) ∧ j ≤ 4) (ws0 := [(3, .string tx), (4, .string s4), (7, pw O5 0), (11, .bool true), (12, sv Cj 0 4 Bb), (13, iv i), (14, pw E0 0), (19, pw Ec 0), (21, pw Ch 0), (25, iv 0)]) (by kernel_rfl) _ ⟨0, xps, aps, mps, kps, xqs, aqs, mqs, kqs, rfl, rfl, Nat.le_refl _, hE, Bc, E7, E8, E9, Ea, Nat.zero_le _⟩ ?_;clear E7 E8 E9 Ea hE Bc;rintro Qf L ws Hm ⟨j, xpt, apt, mpt, kpt, xqt, aqt, mqt, kqt, rfl, rfl, I4, hE, Bc, Ez, F0, Cv, Cw, R7⟩
   by_cases hlt : j < 4
   ·
    obtain ⟨a7, n7, c7, Dy, Dz, H7, R5⟩ := Iw.at_ j (by omega);have Py := H7.len;have Q2 := H7.max;refine zc (zc (zp (pD (iv j) (sv Cj 0 4 Bb) ?_)));refine pT (iv 4) ?_;refine pU (.bool true) (ed (((j : Nat) : Int) < (4 : Int)) (by omega)) ?_;refine zn (zt ?_);refine cw_skip (zq (zc (cw_block ?_)));refine zc (dE Tz80_5 (fun w' => w'.cell? ⟨E0, 0, none⟩ = some (iv (CC i : Int)) ∧ w'.cell? ⟨E0, 1, none⟩ = some (.slice a9 n9 c9) ∧ w'.cell? ⟨Cj, j * 2, none⟩ = some (iv (CC j : Int)) ∧ w'.cell? ⟨Cj, j * 2 + 1, none⟩ = some (.slice a7 n7 c7)) (⟨(B3.x (Cc.trans Bc)).1, (B2.x (Cc.trans Bc)).1, ((C6.trans Bc).cell Dy), ((C6.trans Bc).cell Dz)⟩) (fun ops Q Pi hb hL hR hK => ?_));refine mv6 hb hE Bc Ez F0 Cv Cw fun hE Bc Ez F0 Cv Cw=>?_;have L3 := hb.size;have F6 := A4 (B3.c (Cc.trans Bc)) (B2.c (Cc.trans Bc)) ((C6.trans Bc).cell Dy) (((C6.trans Bc).cell Dz));refine wM 0 (.agg #[iv (CC i : Int), .slice a9 n9 c9]) hR (fun w hS => ld25 (hS.1) (hS.2.1)) F6 ?_;refine wW 1 (sv Cj 0 4 Bb) 2 (iv j) hR F6 ?_;refine wL 3 (pw Cj (j * 2)) hR (fun w _ => ex_index (p := sv Cj 0 4 Bb) (i := iv j) rfl (by kernel_rfl) (by kernel_rfl) (ix28z (k := j) (by omega))) F6 ?_;refine wM 4 (.agg #[iv (CC j : Int), .slice a7 n7 c7]) hR (fun w hS => ld25 (hS.2.2.1) (hS.2.2.2)) F6 ?_;refine wC 5 26 #[.agg #[iv (CC i : Int), .slice a9 n9 c9], .agg #[iv (CC j : Int), .slice a7 n7 c7]] hR ((Merge_t _ ((H9.ext (C6.trans Bc))) (Ext.refl _) ((H7.ext (C6.trans Bc))) (Ext.refl _) (hRl.ext hE)).mono ?_);rintro e Io ⟨Fk, G3, Fy, rfl, J3, N4, hb⟩;refine mv6 hb hE Bc Ez F0 Cv Cw fun hE Bc Ez F0 Cv Cw=>?_;have L4 := hb.size;have F8 := Ext.refl Io;have K6 := Bx.trans Bc;have K7 := Cn.trans K6;have Gu := Cm.trans K7;have I0 := Bg.trans Gu;have G9 := A4 (B3.c (Gu.trans F8)) (B2.c (Gu.trans F8)) ((I0.trans F8).cell Dy) (((I0.trans F8).cell Dz));refine ⟨_, rfl, G9, ?_⟩;refine wW 6 (.tuple #[.agg #[iv (oC (CC i) (Rep.mergeF (CC i) (LQ i) (CC j) (LQ j)) : Int), .slice Fk G3 Fy], iv (oE (Rep.mergeF (CC i) (LQ i) (CC j) (LQ j)) : Int)]) 7 (.agg #[iv (oC (CC i) (Rep.mergeF (CC i) (LQ i) (CC j) (LQ j)) : Int), .slice Fk G3 Fy]) hR G9 ?_;refine wV 8 (iv (oE (Rep.mergeF (CC i) (LQ i) (CC j) (LQ j)) : Int)) hR G9 ?_;have Bk := J3;have Bp := (Bc.trans F8);have C1 := Ez;have Bn := F0;refine wS 9 hR (sn_set2C (O := Ec) (j := 0) (v := iv (oC (CC i) (Rep.mergeF (CC i) (LQ i) (CC j) (LQ j)) : Int)) (v' := .slice Fk G3 Fy) (ex_store (p := pw Ec 0) (v := .agg #[iv (oC (CC i) (Rep.mergeF (CC i) (LQ i) (CC j) (LQ j)) : Int), .slice Fk G3 Fy]) rfl (by kernel_rfl) (by kernel_rfl) (st25 C1.1 C1.2 Bn.1 Bn.2)) C1 Bn ?_);intro Mc Ce Db Dc F4;replace Bk := Bk.keep2 Bn.1 F4;replace hE := Ce.ext hE (by omega);replace Bp := Ce.ext Bp (T D3 (Nat.le_of_eq Dq));replace Cv := Ce.box (by omega) Cv;replace Cw := Ce.box (by omega) Cw;have L5 : Io.heap.size ≤ Mc.heap.size := Nat.le_of_eq Ce.size.symm;clear Ce C1 Bn F4;have Hp := A4 (B3.c (Cc.trans Bp)) (B2.c (Cc.trans Bp)) ((C6.trans Bp).cell Dy) (((C6.trans Bp).cell Dz));refine ⟨Hp, ?_⟩;refine wV 10 (iv (oE (Rep.mergeF (CC i) (LQ i) (CC j) (LQ j)) : Int)) hR Hp ?_;refine we hL hR hK ?_;refine zq (cK [3,4,7,11,12,13,14,19,20,21,25] (fun L => ?_));refine zc (dE Tz80_6 (fun w' => w'.cell? ⟨E0, 0, none⟩ = some (iv (CC i : Int)) ∧ w'.cell? ⟨E0, 1, none⟩ = some (.slice a9 n9 c9) ∧ w'.cell? ⟨Cj, j * 2, none⟩ = some (iv (CC j : Int)) ∧ w'.cell? ⟨Cj, j * 2 + 1, none⟩ = some (.slice a7 n7 c7)) (⟨(B3.x (Cc.trans Bp)).1, (B2.x (Cc.trans Bp)).1, ((C6.trans Bp).cell Dy), ((C6.trans Bp).cell Dz)⟩) (fun ops Q Pj hb hL hR hK => ?_));refine mv7 hb hE Bp Cv Cw Bk Db Dc fun hE Bp Cv Cw Bk Db Dc=>?_;have L6 := hb.size;have F7 := A4 (B3.c (Cc.trans Bp)) (B2.c (Cc.trans Bp)) ((C6.trans Bp).cell Dy) (((C6.trans Bp).cell Dz));refine wM 0 (.agg #[iv (CC i : Int), .slice a9 n9 c9]) hR (fun w hS => ld25 (hS.1) (hS.2.1)) F7 ?_;refine wW 1 (sv Cj 0 4 Bb) 2 (iv j) hR F7 ?_;refine wL 3 (pw Cj (j * 2)) hR (fun w _ => ex_index (p := sv Cj 0 4 Bb) (i := iv j) rfl (by kernel_rfl) (by kernel_rfl) (ix28z (k := j) (by omega))) F7 ?_;refine wM 4 (.agg #[iv (CC j : Int), .slice a7 n7 c7]) hR (fun w hS => ld25 (hS.2.2.1) (hS.2.2.2)) F7 ?_;refine wC 5 27 #[.agg #[iv (CC i : Int), .slice a9 n9 c9], .agg #[iv (CC j : Int), .slice a7 n7 c7]] hR ((rMerge_t _ ((H9.ext (C6.trans Bp))) (Ext.refl _) ((H7.ext (C6.trans Bp))) (Ext.refl _)).mono ?_);rintro e Ip ⟨Fl, G4, Fz, rfl, J4, N5, hb⟩;refine mv7 hb hE Bp Cv Cw Bk Db Dc fun hE Bp Cv Cw Bk Db Dc=>?_;have L7 := hb.size;have Fc := Ext.refl Ip;have K8 := Bx.trans Bp;have K9 := Cn.trans K8;have Gv := Cm.trans K9;have I1 := Bg.trans Gv;have Ga := A4 (B3.c (Gv.trans Fc)) (B2.c (Gv.trans Fc)) ((I1.trans Fc).cell Dy) (((I1.trans Fc).cell Dz));refine ⟨_, rfl, Ga, ?_⟩;refine wW 6 (.tuple #[.agg #[iv (oC (CC i) (Rep.mergeF (CC i) (LQ i) (CC j) (LQ j)) : Int), .slice Fl G4 Fz], iv (oE (Rep.mergeF (CC i) (LQ i) (CC j) (LQ j)) : Int)]) 7 (.agg #[iv (oC (CC i) (Rep.mergeF (CC i) (LQ i) (CC j) (LQ j)) : Int), .slice Fl G4 Fz]) hR Ga ?_;refine wV 8 (iv (oE (Rep.mergeF (CC i) (LQ i) (CC j) (LQ j)) : Int)) hR Ga ?_;have C9 := J4;have Bq := (Bp.trans Fc);have C1 := Cv;have Bn := Cw;refine wS 9 hR (sn_set2C (O := Ch) (j := 0) (v := iv (oC (CC i) (Rep.mergeF (CC i) (LQ i) (CC j) (LQ j)) : Int)) (v' := .slice Fl G4 Fz) (ex_store (p := pw Ch 0) (v := .agg #[iv (oC (CC i) (Rep.mergeF (CC i) (LQ i) (CC j) (LQ j)) : Int), .slice Fl G4 Fz]) rfl (by kernel_rfl) (by kernel_rfl) (st25 C1.1 C1.2 Bn.1 Bn.2)) C1 Bn ?_)
    intro Md Ce Ef Eg F4;replace Bk := Bk.keep2 Bn.1 F4;replace C9 := C9.keep2 Bn.1 F4;replace hE := Ce.ext hE (by omega);replace Bq := Ce.ext Bq (by omega);replace Db := Ce.box (by omega) Db;replace Dc := Ce.box (by omega) Dc;have L8 : Ip.heap.size ≤ Md.heap.size := Nat.le_of_eq Ce.size.symm;clear Ce C1 Bn F4;have Hq := A4 (B3.c (Cc.trans Bq)) (B2.c (Cc.trans Bq)) ((C6.trans Bq).cell Dy) (((C6.trans Bq).cell Dz));refine ⟨Hq, ?_⟩;refine wV 10 (iv (oE (Rep.mergeF (CC i) (LQ i) (CC j) (LQ j)) : Int)) hR Hq ?_;refine we hL hR hK ?_;refine zq (cK [3,4,7,11,12,13,14,19,20,21,22,25] (fun L => ?_));refine zc (dE Tz80_7 (fun w' => Ext M5 w') (Ext.drew Bq) (fun ops Q Pk hb hL hR hK => ?_));refine mv7 hb hE Bq Db Dc Bk C9 Ef fun hE Bq Db Dc Bk C9 Ef=>?_;replace Eg := Eg.x hb;have La := hb.size;refine wM 0 (.agg #[iv (CC i : Int), .slice a9 n9 c9]) hR (fun w hS => ld25 (B3.c (Cc.trans hS)) (B2.c (Cc.trans hS))) Bq ?_;refine wW 1 (sv Cj 0 4 Bb) 2 (iv j) hR Bq ?_;refine wL 3 (pw Cj (j * 2)) hR (fun w _ => ex_index (p := sv Cj 0 4 Bb) (i := iv j) rfl (by kernel_rfl) (by kernel_rfl) (ix28z (k := j) (by omega))) Bq ?_;refine wM 4 (.agg #[iv (CC j : Int), .slice a7 n7 c7]) hR (fun w hS => ld25 ((C6.trans hS).cell Dy) ((C6.trans hS).cell Dz)) Bq ?_;refine wC 5 28 #[.agg #[iv (CC i : Int), .slice a9 n9 c9], .agg #[iv (CC j : Int), .slice a7 n7 c7]] hR ((Behind_t _ ((H9.ext (C6.trans Bq))) (Ext.refl _) ((H7.ext (C6.trans Bq))) (Ext.refl _) (hRl.ext hE)).mono ?_);rintro e Iq ⟨Gp, Hg, Hb, rfl, J5, N6, hb⟩;refine mv7 hb hE Bq Db Dc Bk C9 Ef fun hE Bq Db Dc Bk C9 Ef=>?_;replace Eg := Eg.x hb;have Lb := hb.size;have Cb := Ext.refl Iq;have hS := Bq.trans Cb;refine ⟨_, rfl, hS, ?_⟩;refine wW 6 (.tuple #[.slice Gp Hg Hb, iv (oE (Rep.behindF (CC i) (LQ i) (CC j) (LQ j)) : Int)]) 7 (.slice Gp Hg Hb) hR hS ?_;refine wW 8 (iv (oE (Rep.behindF (CC i) (LQ i) (CC j) (LQ j)) : Int)) 9 (.slice Gp Hg Hb) hR hS ?_;refine wV 10 (iv (oE (Rep.behindF (CC i) (LQ i) (CC j) (LQ j)) : Int)) hR hS ?_;refine we hL hR hK ?_;refine zq (cK [3,4,7,11,12,13,14,15,16,19,20,21,22,25] (fun L => ?_));refine cw_seq ?_;have Ka := Bx.trans Bq;have Kb := Cn.trans Ka;have Gw := Cm.trans Kb;have Gb := Bg.trans Gw;refine dE Tz80_8 (fun w' => Ext Iq w') (Ext.drew (Ext.refl _)) (fun ops Q Pm hb hL hR hK => ?_);refine mv7 hb hE Cb Db Dc Bk C9 Ef fun hE Cb Db Dc Bk C9 Ef=>?_;replace Eg := Eg.x hb;have Lc := hb.size;refine wM 0 (.agg #[iv (CC i : Int), .slice a9 n9 c9]) hR (fun w hS => ld25 (B3.c (Gw.trans hS)) (B2.c (Gw.trans hS))) Cb ?_;refine wW 1 (sv Cj 0 4 Bb) 2 (iv j) hR Cb ?_;refine wL 3 (pw Cj (j * 2)) hR (fun w _ => ex_index (p := sv Cj 0 4 Bb) (i := iv j) rfl (by kernel_rfl) (by kernel_rfl) (ix28z (k := j) (by omega))) Cb ?_;refine wM 4 (.agg #[iv (CC j : Int), .slice a7 n7 c7]) hR (fun w hS => ld25 ((Gb.trans hS).cell Dy) ((Gb.trans hS).cell Dz)) Cb ?_;refine wC 5 29 #[.agg #[iv (CC i : Int), .slice a9 n9 c9], .agg #[iv (CC j : Int), .slice a7 n7 c7]] hR ((rBehind_t _ ((H9.ext (Gb.trans Cb))) (Ext.refl _) ((H7.ext (Gb.trans Cb))) (Ext.refl _)).mono ?_);rintro e Ir ⟨Gq, Hh, Hc, rfl, J6, N7, hb⟩;refine mv7 hb hE Cb Db Dc Bk C9 Ef fun hE Cb Db Dc Bk C9 Ef=>?_;replace Eg := Eg.x hb;have Ld := hb.size;have B0 := Ext.refl Ir;have hS := Cb.trans B0;refine ⟨_, rfl, hS, ?_⟩;refine wW 6 (.tuple #[.slice Gq Hh Hc, iv (oE (Rep.behindF (CC i) (LQ i) (CC j) (LQ j)) : Int)]) 7 (.slice Gq Hh Hc) hR hS ?_;refine wW 8 (iv (oE (Rep.behindF (CC i) (LQ i) (CC j) (LQ j)) : Int)) 9 (.slice Gq Hh Hc) hR hS ?_;refine wV 10 (iv (oE (Rep.behindF (CC i) (LQ i) (CC j) (LQ j)) : Int)) hR hS ?_;refine we hL hR hK ?_;refine zq (cK [3,4,7,11,12,13,14,15,16,17,18,19,20,21,22,25] (fun L => ?_));refine cw_seq ?_;have I2 := Bq.trans Cb;have Kc := Bx.trans I2;have Kd := Cn.trans Kc;have Fd := Cm.trans Kd;have Dp := Bg.trans Fd;refine dE Tz80_9 (fun w' => Ext Ir w') (Ext.drew (Ext.refl _)) (fun ops Q Pn hb hL hR hK => ?_);refine mv2 hb hE B0 fun hE B0=>?_;have Le := hb.size;refine wW 0 (iv (oE (Rep.mergeF (CC i) (LQ i) (CC j) (LQ j)) : Int)) 1 (iv (oE (Rep.mergeF (CC i) (LQ i) (CC j) (LQ j)) : Int)) hR B0 ?_;refine wL 2 (.bool false) hR (fun w _ => ev_nne (show _ = Result.ok (Next.value (Value.bool ((oE (Rep.mergeF (CC i) (LQ i) (CC j) (LQ j)) : Int) != (oE (Rep.mergeF (CC i) (LQ i) (CC j) (LQ j)) : Int)))) _ from by kernel_rfl) (rfl)) B0 ?_;refine wW 3 (.bool false) 4 (iv (oE (Rep.behindF (CC i) (LQ i) (CC j) (LQ j)) : Int)) hR B0 ?_;refine wV 5 (iv (oE (Rep.behindF (CC i) (LQ i) (CC j) (LQ j)) : Int)) hR B0 ?_;refine wL 6 (.bool false) hR (fun w _ => ev_nne (show _ = Result.ok (Next.value (Value.bool ((oE (Rep.behindF (CC i) (LQ i) (CC j) (LQ j)) : Int) != (oE (Rep.behindF (CC i) (LQ i) (CC j) (LQ j)) : Int)))) _ from by kernel_rfl) (rfl)) B0 ?_;refine wW 7 (.bool false) 8 (.bool false) hR B0 ?_;refine wM 9 (.agg #[iv (oC (CC i) (Rep.mergeF (CC i) (LQ i) (CC j) (LQ j)) : Int), .slice Fk G3 Fy]) hR (fun w hS => ld25 (Db.c hS) (Dc.c hS)) B0 ?_;refine wM 10 (.agg #[iv (oC (CC i) (Rep.mergeF (CC i) (LQ i) (CC j) (LQ j)) : Int), .slice Fl G4 Fz]) hR (fun w hS => ld25 (Ef.c hS) (Eg.c hS)) B0 ?_
    refine wC 11 20 #[.agg #[iv (oC (CC i) (Rep.mergeF (CC i) (LQ i) (CC j) (LQ j)) : Int), .slice Fk G3 Fy], .agg #[iv (oC (CC i) (Rep.mergeF (CC i) (LQ i) (CC j) (LQ j)) : Int), .slice Fl G4 Fz]] hR ((rSame_r _ _ _ ((Bk.ext B0)) (Ext.refl _) ((C9.ext B0)) (Ext.refl _) (decide_eq_true ⟨rfl, rfl⟩)).mono ?_);rintro e Qq ⟨rfl, hb⟩;refine mv2 hb hE B0 fun hE B0=>?_;have Lf := hb.size;refine ⟨_, rfl, B0, ?_⟩;refine wW 12 (.bool false) 13 (.bool false) hR B0 ?_;refine wW 14 (.bool false) 15 (.slice Gp Hg Hb) hR B0 ?_;refine wV 16 (.slice Gq Hh Hc) hR B0 ?_;refine wC 17 15 #[.slice Gp Hg Hb, .slice Gq Hh Hc] hR ((SameRecords_r _ _ _ ((J5.ext (Cb.trans B0))) (Ext.refl _) ((J6.ext B0)) (Ext.refl _) (decide_eq_true rfl)).mono ?_);rintro e Qr ⟨rfl, hb⟩;refine mv2 hb hE B0 fun hE B0=>?_;have Lg := hb.size;refine ⟨_, rfl, B0, ?_⟩;refine wW 18 (.bool false) 19 (.bool false) hR B0 ?_;refine wV 20 (.bool false) hR B0 ?_;refine wM 21 (.agg #[iv (CC i : Int), .slice a9 n9 c9]) hR (fun w hS => ld25 (B3.c (Fd.trans hS)) (B2.c (Fd.trans hS))) B0 ?_;refine wW 22 (sv Cj 0 4 Bb) 23 (iv j) hR B0 ?_;refine wL 24 (pw Cj (j * 2)) hR (fun w _ => ex_index (p := sv Cj 0 4 Bb) (i := iv j) rfl (by kernel_rfl) (by kernel_rfl) (ix28z (k := j) (by omega))) B0 ?_;refine wM 25 (.agg #[iv (CC j : Int), .slice a7 n7 c7]) hR (fun w hS => ld25 ((Dp.trans hS).cell Dy) ((Dp.trans hS).cell Dz)) B0 ?_;refine wM 27 (.agg #[iv (CC i : Int), .slice a9 n9 c9]) hR (fun w hS => ld25 (B3.c (Fd.trans hS)) (B2.c (Fd.trans hS))) B0 ?_;refine wW 28 (sv Cj 0 4 Bb) 29 (iv j) hR B0 ?_;refine wL 30 (pw Cj (j * 2)) hR (fun w _ => ex_index (p := sv Cj 0 4 Bb) (i := iv j) rfl (by kernel_rfl) (by kernel_rfl) (ix28z (k := j) (by omega))) B0 ?_;refine wM 31 (.agg #[iv (CC j : Int), .slice a7 n7 c7]) hR (fun w hS => ld25 ((Dp.trans hS).cell Dy) ((Dp.trans hS).cell Dz)) B0 ?_;refine wC 26 30 #[.agg #[iv (CC i : Int), .slice a9 n9 c9], .agg #[iv (CC j : Int), .slice a7 n7 c7]] hR ((Same_r (r := decide (CC i = CC j ∧ LQ i = LQ j)) _ _ _ ((H9.ext (Dp.trans B0))) (Ext.refl _) ((H7.ext (Dp.trans B0))) (Ext.refl _) rfl).mono ?_);rintro e Qs ⟨rfl, hb⟩;refine mv2 hb hE B0 fun hE B0=>?_;have Lh := hb.size;refine ⟨_, rfl, B0, ?_⟩;refine wC 32 20 #[.agg #[iv (CC i : Int), .slice a9 n9 c9], .agg #[iv (CC j : Int), .slice a7 n7 c7]] hR ((rSame_r (r := decide (CC i = CC j ∧ LQ i = LQ j)) _ _ _ ((H9.ext (Dp.trans B0))) (Ext.refl _) ((H7.ext (Dp.trans B0))) (Ext.refl _) rfl).mono ?_);rintro e Qu ⟨rfl, hb⟩;refine mv2 hb hE B0 fun hE B0=>?_;have Li := hb.size;refine ⟨_, rfl, B0, ?_⟩;refine wL 33 (.bool false) hR (fun w _ => ev_bool (show _ = Result.ok (Next.value (Value.bool ((decide (CC i = CC j ∧ LQ i = LQ j)) != (decide (CC i = CC j ∧ LQ i = LQ j))))) _ from by kernel_rfl) (bne_self_eq_false _)) B0 ?_;refine wV 34 (.bool false) hR B0 ?_;refine we hL hR hK ?_;refine zq (cK [3,4,7,11,12,13,14,19,21,25,278] (fun L => ?_));refine zf ?_;refine cw_skip (qw_block (zq (zp (pT (iv j) ?_))));refine pU (iv ((j + 1 : Nat) : Int)) (ew (by omega) (by omega)) ?_;refine pT (iv ((j + 1 : Nat) : Int)) ?_;refine pl_nil (zr [3, 4, 7, 11, 12, 13, 14, 19, 21, 25] _ ?_ ⟨(j + 1), (oC (CC i) (Rep.mergeF (CC i) (LQ i) (CC j) (LQ j))), Fk, G3, Fy, (oC (CC i) (Rep.mergeF (CC i) (LQ i) (CC j) (LQ j))), Fl, G4, Fz, rfl, rfl, (by omega), hE, (I2.trans B0), (Db.x B0), (Dc.x B0), (Ef.x B0), (Eg.x B0), by omega⟩);omega
   ·
    refine zc (zc (zp (pD (iv j) (sv Cj 0 4 Bb) ?_)));refine pT (iv 4) ?_;refine pU (.bool false) (en (((j : Nat) : Int) < (4 : Int)) (by omega)) ?_;refine zn (zf ?_);refine cw_exit (qw_then_exit (qw_then_exit (qw_block_out (zq (zc (zc (zp (pT (iv 0) ?_))))))));refine zn (cK [3,4,7,11,12,13,14,19,21,26] (fun L => ?_));refine cw_block ?_;have Bm := Ext.refl Hm;have Ke := Bx.trans Bc;have Kf := Cn.trans Ke;have Fe := Cm.trans Kf;have I3 := Bg.trans Fe;have Mm := (H9.ext (I3.trans Bm));obtain ⟨b4, o4, Pu, My, P1⟩ := Mm.parts;have Px := Mm.len;have Q1 := Mm.max;refine cw_loop [3, 4, 7, 11, 12, 13, 14, 19, 21, 26] (fun ws' wr m => ∃ k : Nat, ws' = [(3, .string tx), (4, .string s4), (7, pw O5 0), (11, .bool true), (12, sv Cj 0 4 Bb), (13, iv i), (14, pw E0 0), (19, pw Ec 0), (21, pw Ch 0), (26, iv k)] ∧ m = n9 - k ∧ Hm.heap.size ≤ wr.heap.size ∧ Ext w wr ∧ Ext Hm wr ∧ k ≤ n9) (ws0 := [(3, .string tx), (4, .string s4), (7, pw O5 0), (11, .bool true), (12, sv Cj 0 4 Bb), (13, iv i), (14, pw E0 0), (19, pw Ec 0), (21, pw Ch 0), (26, iv 0)]) (by kernel_rfl) _ ⟨0, rfl, rfl, Nat.le_refl _, hE, Bm, Nat.zero_le _⟩ ?_;clear hE Bm;rintro Qh L ws Qv ⟨k, rfl, rfl, I5, hE, Bm, F4⟩
    by_cases hlt : k < n9
    ·
     have Pv := My (by omega);obtain rfl := Pu (by omega);refine zc (zc (zp (pD (iv k) (pw E0 1) ?_)));refine pU (sv b4 o4 n9 c9) (xl (ld23 (B2.c (Fe.trans Bm)))) ?_;refine pT (iv n9) ?_;refine pU (.bool true) (ed (((k : Nat) : Int) < ((n9 : Nat) : Int)) (by omega)) ?_;refine zn (cK [3,4,7,11,12,13,14,19,21,26,283] (fun L => ?_));refine zt ?_;refine cw_skip (zq (zc (cw_block ?_)));refine zc (zp (pT (pw E0 1) ?_));refine pU (sv b4 o4 n9 c9) (xl (ld23 (B2.c (Fe.trans Bm)))) ?_;refine pT (iv k) ?_;refine pU (pw b4 (o4 + k * 7)) (xi (sv b4 o4 n9 c9) (iv k) (ix23 (k := k) (by omega))) ?_;refine pU (rvv (recN ((LQ i)) k)) (xl (rl ((P1.ext Bm).r (i := k) (by omega)))) ?_;refine pS (sc 31 #[rvv (recN ((LQ i)) k)] ((Encode_t (x := (recN (LQ i) k)) _ (hRl.ext hE)).mono ?_));rintro e Qw ⟨rfl, hb⟩;refine mv2 hb hE Bm fun hE Bm=>?_;have Lj := hb.size;refine ⟨_, rfl, pD (.tuple #[.string (oS (recN (LQ i) k)), iv (bE (Rep.okR (recN (LQ i) k)) : Int)]) (.string (oS (recN (LQ i) k))) ?_⟩;refine pD (iv (bE (Rep.okR (recN (LQ i) k)) : Int)) (.string (oS (recN (LQ i) k))) ?_;refine pT (iv (bE (Rep.okR (recN (LQ i) k)) : Int)) ?_;refine zn (cK [3,4,7,11,12,13,14,19,21,26,27,28] (fun L => ?_));refine zc (zp (pT (pw E0 1) ?_));refine pU (sv b4 o4 n9 c9) (xl (ld23 (B2.c (Fe.trans Bm)))) ?_;refine pT (iv k) ?_;refine pU (pw b4 (o4 + k * 7)) (xi (sv b4 o4 n9 c9) (iv k) (ix23 (k := k) (by omega))) ?_;refine pU (rvv (recN ((LQ i)) k)) (xl (rl ((P1.ext Bm).r (i := k) (by omega)))) ?_;refine pS (sc 32 #[rvv (recN ((LQ i)) k)] ((rEncode_t (x := (recN (LQ i) k)) _).mono ?_));rintro e Qx ⟨rfl, hb⟩;refine mv2 hb hE Bm fun hE Bm=>?_;have Lk := hb.size;refine ⟨_, rfl, pD (.tuple #[.string (oS (recN (LQ i) k)), iv (bE (Rep.okR (recN (LQ i) k)) : Int)]) (.string (oS (recN (LQ i) k))) ?_⟩;refine pD (iv (bE (Rep.okR (recN (LQ i) k)) : Int)) (.string (oS (recN (LQ i) k))) ?_;refine pT (iv (bE (Rep.okR (recN (LQ i) k)) : Int)) ?_;refine zn (cK [3,4,7,11,12,13,14,19,21,26,27,28,29,30] (fun L => ?_));refine zc (zp (pD (.string (oS (recN (LQ i) k))) (.string (oS (recN (LQ i) k))) ?_));refine pU (.bool false) (ex_binV (a := .string (oS (recN (LQ i) k))) (b := .string (oS (recN (LQ i) k))) rfl (by kernel_rfl) (by kernel_rfl) eqG_str (bin_nqs_t rfl)) ?_;refine pD (.bool false) (iv (bE (Rep.okR (recN (LQ i) k)) : Int)) ?_;refine pT (iv (bE (Rep.okR (recN (LQ i) k)) : Int)) ?_;refine pU (.bool false) (ev_nne (show _ = Result.ok (Next.value (Value.bool ((bE (Rep.okR (recN (LQ i) k)) : Int) != (bE (Rep.okR (recN (LQ i) k)) : Int)))) _ from by kernel_rfl) (rfl)) ?_;refine pT (.bool false) ?_;refine zn (cK [3,4,7,11,12,13,14,19,21,26,311] (fun L => ?_));refine zf ?_;refine cw_skip (qw_block (zq (zp (pT (iv k) ?_))));refine pU (iv ((k + 1 : Nat) : Int)) (ew (by omega) (by omega)) ?_;refine pT (iv ((k + 1 : Nat) : Int)) ?_;refine pl_nil (zr [3, 4, 7, 11, 12, 13, 14, 19, 21, 26] _ ?_ ⟨(k + 1), rfl, rfl, (T I5 (T Lj Lk)), hE, Bm, by omega⟩);omega
    ·
     refine zc (zc (zp (pD (iv k) (pw E0 1) ?_)));refine pU (.slice a9 n9 c9) (xl (ld23 (B2.c (Fe.trans Bm)))) ?_;refine pT (iv n9) ?_;refine pU (.bool false) (en (((k : Nat) : Int) < ((n9 : Nat) : Int)) (by omega)) ?_;refine zn (cK [3,4,7,11,12,13,14,19,21,26,283] (fun L => ?_));refine zf ?_;refine cw_exit (qw_then_exit (qw_then_exit (qw_block_out (zq (zc (zp (pT (pw O5 1) ?_)))))));have Kg := Cx.trans I3;have Kh := Dk.trans Kg;have Ki := Dd.trans Kh;refine pU (iv f1) (xl (ld3 (Es.c (Ki.trans Bm)))) ?_;refine pS (sc 33 #[iv f1] ((New_t _ (hRl.ext hE)).mono ?_));rintro e Nj ⟨rfl, hb⟩;refine mv2 hb hE Bm fun hE Bm=>?_;have Ll := hb.size;refine ⟨_, rfl, pD (.tuple #[.agg #[iv (oC f1 (newO f1) : Int), .slice none 0 0], iv (oE (newO f1) : Int)]) (.agg #[iv (oC f1 (newO f1) : Int), .slice none 0 0]) ?_⟩;refine pT (iv (oE (newO f1) : Int)) ?_;have Gh := (Ez.x Bm);have Gj := (F0.x Bm);have Co := (Cv.x Bm);have Cp := (Cw.x Bm);have Di := (Bc.trans Bm);have C1 := Gh;have Bn := Gj;refine pP (sn_set2C (O := Ec) (j := 0) (v := iv (oC f1 (newO f1) : Int)) (v' := .slice none 0 0) (xt (pw Ec 0) (.agg #[iv (oC f1 (newO f1) : Int), .slice none 0 0]) (st25 C1.1 C1.2 Bn.1 Bn.2)) C1 Bn ?_);intro Me Ce Fm Fo F4;replace hE := Ce.ext hE (by omega);replace Di := Ce.ext Di (T D3 (Nat.le_of_eq Dq));replace Co := Ce.box (by omega) Co;replace Cp := Ce.box (by omega) Cp;have Lm : Nj.heap.size ≤ Me.heap.size := Nat.le_of_eq Ce.size.symm;clear Ce C1 Bn F4;refine pT (iv (oE (newO f1) : Int)) ?_;refine zn (cK [3,4,7,11,12,13,19,20,21] (fun L => ?_));refine zc (zp (pT (pw O5 1) ?_));refine pU (iv f1) (xl (ld3 (Es.c (Fr.trans Di)))) ?_;refine pS (sc 34 #[iv f1] ((rNew_t _).mono ?_));rintro e Nl ⟨rfl, hb⟩;refine mv6 hb hE Di Co Cp Fm Fo fun hE Di Co Cp Fm Fo=>?_;have Ln := hb.size;refine ⟨_, rfl, pD (.tuple #[.agg #[iv (oC f1 (newO f1) : Int), .slice none 0 0], iv (oE (newO f1) : Int)]) (.agg #[iv (oC f1 (newO f1) : Int), .slice none 0 0]) ?_⟩;refine pT (iv (oE (newO f1) : Int)) ?_;have C1 := Co;have Bn := Cp;refine pP (sn_set2C (O := Ch) (j := 0) (v := iv (oC f1 (newO f1) : Int)) (v' := .slice none 0 0) (xt (pw Ch 0) (.agg #[iv (oC f1 (newO f1) : Int), .slice none 0 0]) (st25 C1.1 C1.2 Bn.1 Bn.2)) C1 Bn ?_);intro Ib Ce Ie Ig F4;replace hE := Ce.ext hE (by omega);replace Di := Ce.ext Di (by omega);replace Fm := Ce.box (by omega) Fm;replace Fo := Ce.box (by omega) Fo;have Lo : Nl.heap.size ≤ Ib.heap.size := Nat.le_of_eq Ce.size.symm;clear Ce C1 Bn F4;refine pT (iv (oE (newO f1) : Int)) ?_;refine zn (cK [3,4,7,11,12,13,19,20,21,22] (fun L => ?_));refine zc (zp (pD (iv (oE (newO f1) : Int)) (iv (oE (newO f1) : Int)) ?_));refine pU (.bool false) (ev_nne (show _ = Result.ok (Next.value (Value.bool ((oE (newO f1) : Int) != (oE (newO f1) : Int)))) _ from by kernel_rfl) (rfl)) ?_;refine pT (.bool false) ?_;refine pU (.agg #[iv (oC f1 (newO f1) : Int), .slice none 0 0]) (xl (ld25 (Fm.1) (Fo.1))) ?_;refine pU (.agg #[iv (oC f1 (newO f1) : Int), .slice none 0 0]) (xl (ld25 (Ie.1) (Ig.1))) ?_;refine pS (sc 20 #[.agg #[iv (oC f1 (newO f1) : Int), .slice none 0 0], .agg #[iv (oC f1 (newO f1) : Int), .slice none 0 0]] ((rSame_r _ _ _ (RecsAt.nil Ib) (Ext.refl _) (RecsAt.nil Ib) (Ext.refl _) (decide_eq_true ⟨rfl, rfl⟩)).mono ?_));rintro e Qy ⟨rfl, hb⟩;refine mv2 hb hE Di fun hE Di=>?_;have Lp := hb.size;refine ⟨_, rfl, pD (.bool false) (.bool false) ?_⟩;refine zn (cK [3,4,7,11,12,13,332] (fun L => ?_));refine zf ?_;refine cw_skip (qw_block (zq (zp (pT (iv i) ?_))));refine pU (iv ((i + 1 : Nat) : Int)) (ew (by omega) (by omega)) ?_;refine pT (iv ((i + 1 : Nat) : Int)) ?_;refine pl_nil (zr [3, 4, 7, 11, 12, 13] _ ?_ ⟨(i + 1), rfl, rfl, (by omega), hE, (C6.trans Di), by omega⟩);omega
 ·
  refine zc (zc (zp (pD (iv i) (sv Cj 0 4 Bb) ?_)));refine pT (iv 4) ?_;refine pU (.bool false) (en (((i : Nat) : Int) < (4 : Int)) (by omega)) ?_;refine zn (zf ?_);refine cw_exit (qw_then_exit (qw_then_exit (qw_block_out (zq (zc (zp (pD (.string s4) (.string s4) ?_)))))));refine pT (iv ((ByteArray.size s4 : Nat) : Int)) ?_;refine pU (iv (((min (ByteArray.size s4) 60 : Nat) : Int) : Int)) (ev_int (show _ = Result.ok (Next.value (Value.int .i64 (if (60 : Int) < ((ByteArray.size s4 : Nat) : Int) then (60 : Int) else ((ByteArray.size s4 : Nat) : Int)))) _ from by kernel_rfl) (by split <;> omega)) ?_;refine pU (.string (ByteArray.extract s4 0 (min (ByteArray.size s4) 60))) (ex_slice (p := .string s4) rfl (by kernel_rfl) (by kernel_rfl) (by kernel_rfl) (by kernel_rfl) (slS_01 (j := min (ByteArray.size s4) 60) (by omega))) ?_;refine pT (.string (ByteArray.extract s4 0 (min (ByteArray.size s4) 60))) ?_;refine zn (cK [4,11] (fun L => ?_));refine cw_seq ?_;obtain ⟨ty, hty, hsy⟩ : ∃ t, ByteArray.extract s4 0 (min (ByteArray.size s4) 60) = t ∧ t.size ≤ 60 := ⟨_, rfl, by rw [ByteArray.size_extract]; omega⟩;rw [hty];refine zp (pT (.string ty) ?_);refine pS (sc 35 #[.string ty] ((Decode_t _ (by omega) (hRl.ext hE)).mono ?_));rintro e Qz ⟨rfl, hb⟩;replace hE := hE.trans hb;have Gc := hb.size;refine ⟨_, rfl, pD (.tuple #[rvv (oD (Rep.decR ty)), iv (oE (Rep.decR ty) : Int)]) (rvv (oD (Rep.decR ty))) ?_⟩;refine pT (iv (oE (Rep.decR ty) : Int)) ?_;refine pS (sw 49 #[iv 0, iv 0, iv 0, iv 0, iv 0, iv 0, .string (⟨#[]⟩)] ?_);intro I8 Mf H5 Ng hb hbx;have ⟨Bo, Br, Bs, Bt, Bu, Bv, Bw⟩ := bq7 hbx;replace hE := hE.trans hb;have I6 := hb.size;have Lx := Bo.lt;refine pP (sn_setK7 (O := I8) (j := 0) (v0 := iv ((oD (Rep.decR ty)).c : Int)) (v1 := iv ((oD (Rep.decR ty)).n : Int)) (v2 := iv ((oD (Rep.decR ty)).t : Int)) (v3 := iv ((oD (Rep.decR ty)).o : Int)) (v4 := iv ((oD (Rep.decR ty)).w : Int)) (v5 := iv ((oD (Rep.decR ty)).k : Int)) (v6 := .string ((oD (Rep.decR ty)).x)) (xt (pw I8 0) (rvv (oD (Rep.decR ty))) (st49 Bo.1 Bo.2 Br.1 Br.2 Bs.1 Bs.2 Bt.1 Bt.2 Bu.1 Bu.2 Bv.1 Bv.2 Bw.1 Bw.2)) Bo Br Bs Bt Bu Bv Bw ?_);intro Mg ho Bo Br Bs Bt Bu Bv Bw hk;replace hE := ho.ext hE (by omega);have Gz := Nat.le_of_eq ho.size.symm;clear ho hk;refine pT (iv (oE (Rep.decR ty) : Int)) ?_;refine zn (zc (zp (pT (.string ty) ?_)));refine pS (sc 36 #[.string ty] ((rDecode_t _ (by omega)).mono ?_));rintro e R0 ⟨rfl, hb⟩;refine mv7 hb hE Bo Br Bs Bt Bu Bv fun hE Bo Br Bs Bt Bu Bv=>?_;replace Bw := Bw.x hb;have H3 := hb.size;refine ⟨_, rfl, pD (.tuple #[rvv (oD (Rep.decR ty)), iv (oE (Rep.decR ty) : Int)]) (rvv (oD (Rep.decR ty))) ?_⟩;refine pT (iv (oE (Rep.decR ty) : Int)) ?_;refine pS (sw 49 #[iv 0, iv 0, iv 0, iv 0, iv 0, iv 0, .string (⟨#[]⟩)] ?_);intro It Mh Fu Nh hb hbx;have ⟨Cr, D4, D5, D6, D7, D8, D9⟩ := bq7 hbx;refine mv7 hb hE Bo Br Bs Bt Bu Bv fun hE Bo Br Bs Bt Bu Bv=>?_;replace Bw := Bw.x hb;have Nz := hb.size;have P7 := Cr.lt;refine pP (sn_setK7 (O := It) (j := 0) (v0 := iv ((oD (Rep.decR ty)).c : Int)) (v1 := iv ((oD (Rep.decR ty)).n : Int)) (v2 := iv ((oD (Rep.decR ty)).t : Int)) (v3 := iv ((oD (Rep.decR ty)).o : Int)) (v4 := iv ((oD (Rep.decR ty)).w : Int)) (v5 := iv ((oD (Rep.decR ty)).k : Int)) (v6 := .string ((oD (Rep.decR ty)).x)) (xt (pw It 0) (rvv (oD (Rep.decR ty))) (st49 Cr.1 Cr.2 D4.1 D4.2 D5.1 D5.2 D6.1 D6.2 D7.1 D7.2 D8.1 D8.2 D9.1 D9.2)) Cr D4 D5 D6 D7 D8 D9 ?_);intro Mi ho Cr D4 D5 D6 D7 D8 D9 hk;replace hE := ho.ext hE (by omega);have q9 := ho.bx I8 (by omega);replace Bo := q9 Bo;replace Br := q9 Br;replace Bs := q9 Bs;replace Bt := q9 Bt;replace Bu := q9 Bu;replace Bv := q9 Bv;replace Bw := q9 Bw;clear q9;have P0 := Nat.le_of_eq ho.size.symm;clear ho hk;refine pT (iv (oE (Rep.decR ty) : Int)) ?_;refine zn (cK [11,31,32,33,34] (fun L => ?_));refine zc (zp (pD (.bool true) (.bool true) ?_));refine pU (rvv (oD (Rep.decR ty))) (xl (ld49 (Bo.1) (Br.1) (Bs.1) (Bt.1) (Bu.1) (Bv.1) (Bw.1))) ?_;refine pU (rvv (oD (Rep.decR ty))) (xl (ld49 (Cr.1) (D4.1) (D5.1) (D6.1) (D7.1) (D8.1) (D9.1))) ?_;refine pU (.bool true) (ex_binV (a := rvv (oD (Rep.decR ty))) (b := rvv (oD (Rep.decR ty))) rfl (by kernel_rfl) (by kernel_rfl) (eqG_agg (by kernel_rfl)) (bin_eqv_t (rec_eq _ ((oD (Rep.decR ty))) ((oD (Rep.decR ty)))) rfl)) ?_;refine pD (.bool true) (.bool true) ?_;refine pD (iv (oE (Rep.decR ty) : Int)) (iv (oE (Rep.decR ty) : Int)) ?_;refine pU (.bool true) (eE (oE (Rep.decR ty) : Int) (oE (Rep.decR ty) : Int) (rfl)) ?_;refine pD (.bool true) (.bool true) ?_;refine zn (cK [10] (fun L => ?_));refine cw_ret (qw_ret [.bool true] rfl ⟨(by kernel_rfl), trivial⟩ ?_);exact ⟨rfl, hE⟩
end Go.Proofs.YtfmoabgjaclkpaaGreatDoor

namespace Go.Proofs.YtfmoabgjaclkpaaGreatDoor
open Go.ChangeShapes Go.WideShapes Go.ChangeAt Go.RowKit
set_option maxRecDepth 100000 in
theorem ReplicaMatchesReference_lifted (os : Os) (started : os.Started) (H : Type) (enc : TypeId × Value → H) :
  ReturnsInHanded {} Tryz.checked os 3 .any (fun w args => (Rows.replicaMatchesReferenceSpec.pre enc Tryz.prog Tryz.f3 [] false w args ∧ laidMetH Tryz.prog laidTabs w) ∧ sizedMet enc Tryz.prog Tryz.f3 (OpenSpec.ofChange Rows.replicaMatchesReferenceSpec) false w args)
   (Rows.replicaMatchesReferenceSpec.post enc Tryz.prog Tryz.f3 false true false false) := by
 refine returnsInHanded_of_change_and (C := Tryz.checked) (X := fun w _ => laidMetH Tryz.prog laidTabs w) (fun _ _ _ hh h => h.of_heap hh) own started (by kernel_rfl) Tryz.func3
  (ChangeSpec.witness_shaped (enc := enc) (C := Tryz.checked) (os := os) (X := fun w _ => laidMetH Tryz.prog laidTabs w) false (World.doorLaid Tryz.prog 19 os) #[.slice none 0 0, .agg #[.int .i64 0, .slice none 0 0], .agg #[.int .i64 0, .int .i64 0, .int .i64 0, .int .i64 0], .string ⟨#[]⟩, .string ⟨#[]⟩] 8 rfl (World.shaped_of_RefB (by kernel_rfl) (by kernel_rfl)) (by kernel_rfl) (by kernel_rfl) (by kernel_rfl) (door_met os _)) ?_
 intro W base args ds gs before hval0 hW _ hsz hL _
 have hval : ∀ (j : Nat) t v, Tryz.f3.params[j]? = some t → args[j]? = some v → Value.okWide Tryz.prog W .any base t v := hval0
 have hW' := hW
 obtain ⟨p, q, hA0, hV, rfl, hfz, hnd⟩ := hW
 have hA : DataW.TrodAll enc Tryz.prog W 0 (fun _ => true) true Tryz.f3.params.toList args.toList ds p := hA0
 rw [Tryz.params3] at hA hval
 obtain ⟨v0, vs0, d0, ds0, p0, q0, hargs, rfl, rfl, h0, r0⟩ := trodAll_cons hA
 obtain ⟨v1, vs1, d1, ds1, p1, q1, rfl, rfl, rfl, h1, r1⟩ := trodAll_cons r0
 obtain ⟨v2, vs2, d2, ds2, p2, q2, rfl, rfl, rfl, h2, r2⟩ := trodAll_cons r1
 obtain ⟨v3, vs3, d3, ds3, p3, q3, rfl, rfl, rfl, h3, r3⟩ := trodAll_cons r2
 obtain ⟨v4, vs4, d4, ds4, p4, q4, rfl, rfl, rfl, h4, r4⟩ := trodAll_cons r3
 obtain ⟨rfl, rfl, rfl⟩ := trodAll_nil r4
 obtain rfl : args = #[v0, v1, v2, v3, v4] := by cases args; simp_all
 obtain ⟨rfl, rfl⟩ := trodVars_none hV
 have k0 := h0
 have lt0 : ∀ x ∈ p0, x.block < W.heap.size := by obtain ⟨m, hm⟩ := k0; exact DataW.trod_lt m _ _ _ hm
 have op0 := open_quads (hval 0 _ v0 rfl rfl) h0
 have k1 := h1
 have lt1 : ∀ x ∈ p1, x.block < W.heap.size := by obtain ⟨m, hm⟩ := k1; exact DataW.trod_lt m _ _ _ hm
 have op1 := open_replica (hval 1 _ v1 rfl rfl) h1
 have k2 := h2
 have lt2 : ∀ x ∈ p2, x.block < W.heap.size := by obtain ⟨m, hm⟩ := k2; exact DataW.trod_lt m _ _ _ hm
 have op2 := open_four (hval 2 _ v2 rfl rfl) h2
 have k3 := h3
 have lt3 : ∀ x ∈ p3, x.block < W.heap.size := by obtain ⟨m, hm⟩ := k3; exact DataW.trod_lt m _ _ _ hm
 have op3 := open_text (hval 3 _ v3 rfl rfl) h3
 have k4 := h4
 have lt4 : ∀ x ∈ p4, x.block < W.heap.size := by obtain ⟨m, hm⟩ := k4; exact DataW.trod_lt m _ _ _ hm
 have op4 := open_text (hval 4 _ v4 rfl rfl) h4
 clear hA0 hval0
 refine (ReplicaMatchesReference_walk W v0 op0 v1 op1 v2 op2 v3 op3 v4 op4 (tab_of_laid hL)).mono fun e W' ⟨he, hE⟩ => ?_
 subst he
 have bel : Below W.heap.size W W' := hE
 exact ⟨_, rfl, _, _, _, [], _, [], hW', trodAll_mk1 (shut_bool Tryz.underlying4 _), (trodAll_cons_mk (Below.trod laidOut (by kernel_rfl) (of_decide_eq_true (by kernel_rfl)) k0 bel lt0) (trodAll_cons_mk (Below.trod laidOut (by kernel_rfl) (of_decide_eq_true (by kernel_rfl)) k1 bel lt1) (trodAll_cons_mk (Below.trod laidOut (by kernel_rfl) (of_decide_eq_true (by kernel_rfl)) k2 bel lt2) (trodAll_cons_mk (Below.trod laidOut (by kernel_rfl) (of_decide_eq_true (by kernel_rfl)) k3 bel lt3) (trodAll_cons_mk (Below.trod laidOut (by kernel_rfl) (of_decide_eq_true (by kernel_rfl)) k4 bel lt4) trodAll_mk0))))), rfl, bel.frame _, fun h => by cases h⟩
theorem ReplicaMatchesReference_over : Rows.ReplicaMatchesReferenceSaid :=
 OpenClaim.holds_of_wide 3 Tryz.f3 rfl rfl rfl rfl rfl rfl rfl ⟨rfl, rfl, rfl, rfl, rfl⟩ rfl rfl rfl rfl rfl (by kernel_rfl) Tryz.func3 (by kernel_rfl)
  (of_decide_eq_true (by kernel_rfl)) (by unfold Func.isWrapper; first | (rw [if_pos (by decide +kernel)]; kernel_rfl) | (rw [if_neg (by decide +kernel)]; exact ⟨rfl, rfl⟩))
  (fun os started H enc _ => ReplicaMatchesReference_lifted os started H enc)
theorem ReplicaMatchesReference_holds : Rows.ReplicaMatchesReferenceCardSaid :=
 Claim7.holds_tied_plain_at .later [] [.data] true (true, "f9bd7bf2428558407907bdf4a3d03e3e627b39690f181bd9906d008ddbe31a7e") false
  ReplicaMatchesReference_over (fun _ h => by cases h) (by kernel_rfl) (fun _ h => by cases h) replicaMatchesReference_row_tie rfl ⟨rfl, rfl⟩ (by kernel_rfl) rfl
  (fun f fn hf hfn => by
   obtain rfl : f = 3 := Option.some.inj ((show Tryz.prog.funcNamed "nadir/nadirlaw35.ReplicaMatchesReference" = some 3 by kernel_rfl).symm.trans hf) |>.symm
   obtain rfl : fn = Tryz.f3 := (Option.some.inj (Tryz.func3.symm.trans hfn)).symm
   exact ⟨by kernel_rfl, fun j t ht => by
    rw [Tryz.params3] at ht
    have hm : t ∈ [22, 25, 26, 9, 9] := by simpa using Array.mem_of_getElem? ht
    have hall : ([22, 25, 26, 9, 9].all fun u => !Tryz.prog.wantsStandIn u) = true := by kernel_rfl
    exact (show Tryz.prog.wantsStandIn t = false by simpa using List.all_eq_true.1 hall t hm)⟩)
  (by kernel_rfl)
#print axioms ReplicaMatchesReference_holds
end Go.Proofs.YtfmoabgjaclkpaaGreatDoor
