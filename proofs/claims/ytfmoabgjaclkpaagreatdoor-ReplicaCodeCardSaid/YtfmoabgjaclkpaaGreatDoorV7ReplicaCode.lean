/- The statement ReplicaCode: for every input that the row lists, the law returns true, and every argument reads as it read before. -/
import Derived.Test.YtfmoabgjaclkpaaGreatDoorV6ReplicaCode
import Derived.Test.YtfmoabgjaclkpaaGreatDoorTie
import Derived.Test.YtfmoabgjaclkpaaGreatDoorCards
import Derived.ProofKit
import Derived.OpenShut
import Derived.ChangeOld
import Derived.LaidMore
import Derived.Stop.Joined
import Derived.Stop.LaidErr
import Derived.Lib.LaidTab
import Derived.SevenTiedAt
import Derived.Deep.Slices
import Derived.ChangeMaps5
namespace Go.Proofs.YtfmoabgjaclkpaaGreatDoor
set_option maxRecDepth 1000000
set_option maxHeartbeats 4000000
set_option synthInstance.maxHeartbeats 0
set_option synthInstance.maxSize 9999
open Go.RowKit
def Tz62_0 : List Row := [(some 187, [29], []), (some 188, [187], [0]), (some 189, [26, 188], [1]), (some 190, [189, 188], [2, 1]), (some 191, [188, 190], [1, 3]), (some 192, [191], [4, 1]), (some 193, [28, 192], [5]), (some 194, [193, 192], [6, 5]), (some 195, [192, 194], [5, 7]), (some 196, [195], [8, 5]), (some 197, [27, 196], [9]), (some 198, [13, 196], [9]), (some 199, [198, 196], [11, 9]), (some 200, [199, 196], [12, 9]), (some 201, [197, 200, 196], [10, 13, 9]), (some 202, [196, 201], [9, 14]), (some 203, [202], [15, 9]), (some 204, [13, 203], [16]), (some 205, [204, 203], [17, 16]), (some 206, [205, 203], [18, 16]), (some 207, [203], [16]), (some 208, [206, 207, 203], [19, 20, 16]), (some 209, [203, 208], [16, 21]), (some 210, [209], [22, 16]), (some 211, [15, 210], [23]), (some 212, [211, 210], [24, 23, 23]), (some 213, [210, 212], [23, 25]), (some 214, [213], [26, 25]), (some 215, [214], [27]), (some 216, [215, 214], [28, 27, 27]), (some 217, [216, 214], [29, 27]), (some 218, [214, 217], [27, 30]), (some 219, [218], [31, 29]), (some 220, [15, 219], [32]), (some 221, [15, 219], [32]), (some 222, [220, 221, 219], [33, 34, 32, 32]), (some 223, [219, 222], [32, 35]), (some 224, [223], [36, 35]), (some 225, [15, 224], [37]), (some 226, [1, 224], [37]), (some 227, [225, 226, 224], [38, 39, 37, 37]), (some 228, [227, 224], [40, 37]), (some 229, [224, 228], [37, 41]), (some 0, [229], [42, 40, 0, 1, 2, 3, 4, 5, 6, 7, 8, 9, 10, 11, 12, 13, 14, 15, 16, 17, 18, 19, 20, 21, 22, 23, 24, 25, 26, 27, 28, 29, 30, 31, 32, 33, 34, 35, 36, 37, 38, 39, 40, 41, 42])]
namespace San
def rA : Rec := ⟨2, 1, 100, -1, 0, 1, ⟨#[119, 104, 111, 108, 101]⟩⟩
def rB : Rec := ⟨5, 1, 200, 2, 1, 1, ⟨#[99, 114, 97, 99, 107, 101, 100]⟩⟩
def rC : Rec := ⟨2, 2, 150, 2, 1, 1, ⟨#[115, 116, 97, 105, 110, 101, 100]⟩⟩
def l1 : List Rec := [rA]
def l2 : List Rec := [rA, rB]
def l3 : List Rec := [rA, rC]
def l4 : List Rec := [rA, rC, rB]
def lB : List Rec := [rB]
def lC : List Rec := [rC]
theorem h1 : Rep.addF 2 [] ⟨0, 0, 100, -1, 0, 1, ⟨#[119, 104, 111, 108, 101]⟩⟩ = some l1 := by kernel_rfl
theorem h2 : Rep.mergeF 5 [] 2 l1 = some l1 := by kernel_rfl
theorem h3 : Rep.corrF 5 l1 ⟨0, 0, 200, 2, 1, 1, ⟨#[99, 114, 97, 99, 107, 101, 100]⟩⟩ = some l2 := by kernel_rfl
theorem h4 : Rep.corrF 2 l1 ⟨0, 0, 150, 2, 1, 1, ⟨#[115, 116, 97, 105, 110, 101, 100]⟩⟩ = some l3 := by kernel_rfl
theorem h5 : Rep.foldO 2 l3 = some lC := by kernel_rfl
theorem h6 : Rep.foldO 5 l2 = some lB := by kernel_rfl
theorem h7 : Rep.behindF 2 l3 5 l2 = some lB := by kernel_rfl
theorem h8 : Rep.mergeF 2 l3 5 l2 = some l4 := by kernel_rfl
theorem h9 : Rep.foldO 2 l4 = some lB := by kernel_rfl
theorem h10 : Rep.histO 2 l4 (2, 1) = some l4 := by kernel_rfl
theorem h11 : Rep.histO 2 l4 (3, 1) = none := by kernel_rfl
theorem h12 : Rep.okR (recN lB 0) = true := by kernel_rfl
theorem h13 : Rep.decR (Rep.encR (recN lB 0)) = some (recN lB 0) := by kernel_rfl
theorem hs : (Rep.encR (recN lB 0)).size ≤ 1000000 := of_decide_eq_true (by kernel_rfl)
theorem h14 : Rep.validB 2 l4 = true := by kernel_rfl
theorem h15 : Rep.validB (-1) [] = false := by kernel_rfl
theorem h16 : decide ((2 : Int) = 2 ∧ l4 = l4) = true := by kernel_rfl
theorem h17 : decide ((2 : Int) = 2 ∧ l4 = l3) = false := by kernel_rfl
end San
theorem TxtB.one {w : World} {B : Nat} {x : Rec} (h : BoxAt w B 0 (.string x.x)) : TxtB w B 1 [x] := ⟨fun i hi => by
 match i, hi with
 | 0, _ => exact h.1
 | _ + 1, h => omega⟩
theorem TxtB.three {w : World} {B : Nat} {x y z : Rec} (h : BoxAt w B 0 (.string x.x)) (k : BoxAt w B 1 (.string y.x)) (m : BoxAt w B 2 (.string z.x)) : TxtB w B 3 [x, y, z] := ⟨fun i hi => by
 match i, hi with
 | 0, _ => exact h.1
 | 1, _ => exact k.1
 | 2, _ => exact m.1
 | _ + 3, h => omega⟩
theorem Same_r {w1 w2 : World} {a1 a2 : Option Addr} {n1 n2 : Nat} {l1 l2 : List Rec} {c1 c2 : Int} {r : Bool} (k1 k2 : Nat) (w : World) (H1 : RecsAt w1 a1 n1 l1) (e1 : Ext w1 w) (H2 : RecsAt w2 a2 n2 l2) (e2 : Ext w2 w) (hr : decide (c1 = c2 ∧ l1 = l2) = r) : Calls Tryz.prog 30 #[.agg #[.int .i64 c1, .slice a1 n1 k1], .agg #[.int .i64 c2, .slice a2 n2 k2]] w fun e w' => e = .returned (.bool r) ∧ Ext w w' := hr ▸ Same_c k1 k2 w H1 e1 H2 e2
theorem sane_c (w : World) (hRl : RootAt w) : Calls Tryz.prog 10 #[] w fun e w' => e = .returned (.bool true) ∧ Ext w w' := by
 refine calls_cw 230 [] Tryz.func10 rfl Tryz.ntmps10 (by kernel_rfl) (by kernel_rfl) (fun L => ?_);have hE := Ext.refl w;refine zc (zp (pT (.bool false) ?_));refine zn (zc (zp (pS (sc 33 #[iv 2] ((New_y (c := 2) _ (by omega) (hRl.ext (Ext.refl _))).mono ?_)))));rintro e w1 ⟨rfl, hb⟩;replace hE := hE.trans hb;have Dd := hb.size;refine ⟨_, rfl, pD (.tuple #[.agg #[iv 2, .slice none 0 0], iv 0]) (.agg #[iv 2, .slice none 0 0]) ?_⟩;refine pT (iv 0) ?_;refine pS (sw 25 #[iv 0, .slice none 0 0] ?_);intro O3 X4 Dq H5 hb hbx;have ⟨Be, Bg⟩ := bq2 hbx;replace hE := hE.trans hb;have Dt := hb.size;have Dc := Be.lt;refine pP (sn_set2 (O := O3) (j := 0) (v := iv 2) (v' := .slice none 0 0) (xt (pw O3 0) (.agg #[iv 2, .slice none 0 0]) (st25 Be.1 Be.2 Bg.1 Bg.2)) Be Bg ?_);intro X7 ho Be Bg hk;replace hE := ho.ext hE (T Dd (Nat.le_of_eq Dq));have Cw := Nat.le_of_eq ho.size.symm;clear ho hk;refine pT (iv 0) ?_;refine zn (zc (zp (pS (sc 33 #[iv 5] ((New_y (c := 5) _ (by omega) (hRl.ext hE)).mono ?_)))));rintro e w9 ⟨rfl, hb⟩;refine mv3 hb hE Be Bg fun hE Be Bg=>?_;have C9 := hb.size;refine ⟨_, rfl, pD (.tuple #[.agg #[iv 5, .slice none 0 0], iv 0]) (.agg #[iv 5, .slice none 0 0]) ?_⟩;refine pT (iv 0) ?_;refine pS (sw 25 #[iv 0, .slice none 0 0] ?_);intro Dg Gj Cl G6 hb hbx;have ⟨Bc, Bf⟩ := bq2 hbx;refine mv3 hb hE Be Bg fun hE Be Bg=>?_;have Cu := hb.size;have D8 := Bc.lt;refine pP (sn_set2 (O := Dg) (j := 0) (v := iv 5) (v' := .slice none 0 0) (xt (pw Dg 0) (.agg #[iv 5, .slice none 0 0]) (st25 Bc.1 Bc.2 Bf.1 Bf.2)) Bc Bf ?_);intro Fa ho Bc Bf hk;replace hE := ho.ext hE (by omega);have q9 := ho.bx O3 (by omega);replace Be := q9 Be;replace Bg := q9 Bg;clear q9;have Cg := Nat.le_of_eq ho.size.symm;clear ho hk;refine pT (iv 0) ?_;refine zn (zc (zp (pU (.agg #[iv 2, .slice none 0 0]) (xl (ld25 (Be.1) (Bg.1))) ?_)));refine pS (sc 18 #[.agg #[iv 2, .slice none 0 0], iv 100, iv 1, .string (⟨#[119, 104, 111, 108, 101]⟩)] ((Add_y _ 100 1 ⟨#[119, 104, 111, 108, 101]⟩ _ (RecsAt.nil Fa) (Ext.refl _) (hRl.ext hE) San.h1).mono ?_));rintro e F5 ⟨Dh, H6, Dl, rfl, Dy, Fc, Cx, hb⟩;obtain rfl : 1 = H6 := Dy.len;refine mv5 hb hE Be Bg Bc Bf fun hE Be Bg Bc Bf=>?_;have Cp := hb.size;have Gu := Ext.refl F5;refine ⟨_, rfl, pD (.tuple #[.agg #[iv 2, .slice Dh 1 Dl], iv 0]) (.agg #[iv 2, .slice Dh 1 Dl]) ?_⟩;refine pT (iv 0) ?_;have Bw := Dy;refine pP (sn_set2 (O := O3) (j := 0) (v := iv 2) (v' := .slice Dh 1 Dl) (xt (pw O3 0) (.agg #[iv 2, .slice Dh 1 Dl]) (st25 Be.1 Be.2 Bg.1 Bg.2)) Be Bg ?_);intro Fb ho Be Bg hk;replace hE := ho.ext hE (T Dd (Nat.le_of_eq Dq));have q9 := ho.bx Dg (by omega);replace Bc := q9 Bc;replace Bf := q9 Bf;clear q9;replace Bw := Bw.turn ho (fun ad e => Nat.ne_of_gt (Nat.lt_of_lt_of_le (by omega) (Cx ad e)));have Cq := Nat.le_of_eq ho.size.symm;clear ho hk;refine pT (iv 0) ?_;refine zn (cK [1,2,3,4,5] (fun L => ?_));refine zc (zp (pU (.agg #[iv 5, .slice none 0 0]) (xl (ld25 (Bc.1) (Bf.1))) ?_));refine pU (.agg #[iv 2, .slice Dh 1 Dl]) (xl (ld25 (Be.1) (Bg.1))) ?_;refine pS (sc 26 #[.agg #[iv 5, .slice none 0 0], .agg #[iv 2, .slice Dh 1 Dl]] ((Merge_y _ _ _ (RecsAt.nil Fb) (Ext.refl _) (Bw) (Ext.refl _) (hRl.ext hE) San.h2).mono ?_));rintro e F6 ⟨Dr, Ha, Du, rfl, Dz, Fd, D5, hb⟩;obtain rfl : 1 = Ha := Dz.len;refine mv6 hb hE Bc Bf Bw Be Bg fun hE Bc Bf Bw Be Bg=>?_;have Cz := hb.size;have Gv := Ext.refl F6;refine ⟨_, rfl, pD (.tuple #[.agg #[iv 5, .slice Dr 1 Du], iv 0]) (.agg #[iv 5, .slice Dr 1 Du]) ?_⟩;refine pT (iv 0) ?_;have Bz := Dz;refine pP (sn_set2 (O := Dg) (j := 0) (v := iv 5) (v' := .slice Dr 1 Du) (xt (pw Dg 0) (.agg #[iv 5, .slice Dr 1 Du]) (st25 Bc.1 Bc.2 Bf.1 Bf.2)) Bc Bf ?_);intro Gq ho Bc Bf hk;replace hE := ho.ext hE (by omega);replace Bw := Bw.turn ho (fun ad e => Nat.ne_of_gt (Nat.lt_of_lt_of_le (Nat.lt_of_lt_of_le D8 Cg) (Cx ad e)));have q9 := ho.bx O3 (by omega);replace Be := q9 Be;replace Bg := q9 Bg;clear q9;replace Bz := Bz.turn ho (fun ad e => Nat.ne_of_gt (Nat.lt_of_lt_of_le (by omega) (D5 ad e)));have D0 := Nat.le_of_eq ho.size.symm;clear ho hk;refine pT (iv 0) ?_;refine zn (zc (zp (pU (.agg #[iv 5, .slice Dr 1 Du]) (xl (ld25 (Bc.1) (Bf.1))) ?_)));refine pS (sc 22 #[.agg #[iv 5, .slice Dr 1 Du], iv 200, iv 2, iv 1, iv 1, .string (⟨#[99, 114, 97, 99, 107, 101, 100]⟩)] ((Correct_y _ 200 2 1 1 ⟨#[99, 114, 97, 99, 107, 101, 100]⟩ _ (Bz) (Ext.refl _) (hRl.ext hE) San.h3).mono ?_));rintro e F7 ⟨D9, Hb, Da, rfl, E0, Fe, Dk, hb⟩;obtain rfl : 2 = Hb := E0.len;refine mv6 hb hE Bw Be Bg Bc Bf fun hE Bw Be Bg Bc Bf=>?_;have De := hb.size;have Gw := Ext.refl F7;refine ⟨_, rfl, pD (.tuple #[.agg #[iv 5, .slice D9 2 Da], iv 0]) (.agg #[iv 5, .slice D9 2 Da]) ?_⟩;refine pT (iv 0) ?_;have C0 := E0;refine pP (sn_set2 (O := Dg) (j := 0) (v := iv 5) (v' := .slice D9 2 Da) (xt (pw Dg 0) (.agg #[iv 5, .slice D9 2 Da]) (st25 Bc.1 Bc.2 Bf.1 Bf.2)) Bc Bf ?_);intro Gr ho Cj Ck hk;replace hE := ho.ext hE (by omega);replace Bw := Bw.turn ho (fun ad e => Nat.ne_of_gt (Nat.lt_of_lt_of_le (Nat.lt_of_lt_of_le D8 Cg) (Cx ad e)));have q9 := ho.bx O3 (by omega)
 replace Be := q9 Be;replace Bg := q9 Bg;clear q9;replace C0 := C0.turn ho (fun ad e => Nat.ne_of_gt (Nat.lt_of_lt_of_le (by omega) (Dk ad e)));have Df := Nat.le_of_eq ho.size.symm;clear ho hk Bc Bf;have Bc := Cj;clear Cj;have Bf := Ck;clear Ck;refine pT (iv 0) ?_;refine zn (cK [1,2,3,4,5,6,7] (fun L => ?_));refine zc (zp (pU (.agg #[iv 2, .slice Dh 1 Dl]) (xl (ld25 (Be.1) (Bg.1))) ?_));refine pS (sc 22 #[.agg #[iv 2, .slice Dh 1 Dl], iv 150, iv 2, iv 1, iv 1, .string (⟨#[115, 116, 97, 105, 110, 101, 100]⟩)] ((Correct_y _ 150 2 1 1 ⟨#[115, 116, 97, 105, 110, 101, 100]⟩ _ (Bw) (Ext.refl _) (hRl.ext hE) San.h4).mono ?_));rintro e F8 ⟨Cy, Hc, D2, rfl, E1, Ff, E5, hb⟩;obtain rfl : 2 = Hc := E1.len;refine mv6 hb hE Be Bg C0 Bc Bf fun hE Be Bg C0 Bc Bf=>?_;have Dn := hb.size;have Gx := Ext.refl F8;refine ⟨_, rfl, pD (.tuple #[.agg #[iv 2, .slice Cy 2 D2], iv 0]) (.agg #[iv 2, .slice Cy 2 D2]) ?_⟩;refine pT (iv 0) ?_;have C2 := E1;refine pP (sn_set2 (O := O3) (j := 0) (v := iv 2) (v' := .slice Cy 2 D2) (xt (pw O3 0) (.agg #[iv 2, .slice Cy 2 D2]) (st25 Be.1 Be.2 Bg.1 Bg.2)) Be Bg ?_);intro Gs ho Be Bg hk;replace hE := ho.ext hE (T Dd (Nat.le_of_eq Dq));replace C0 := C0.turn ho (fun ad e => Nat.ne_of_gt (Nat.lt_of_lt_of_le (by omega) (Dk ad e)));have q9 := ho.bx Dg (by omega);replace Bc := q9 Bc;replace Bf := q9 Bf;clear q9;replace C2 := C2.turn ho (fun ad e => Nat.ne_of_gt (Nat.lt_of_lt_of_le (by omega) (E5 ad e)));have Do := Nat.le_of_eq ho.size.symm;clear ho hk;refine pT (iv 0) ?_;refine zn (zc (zc (zp (pD (iv 0) (.bool false) ?_))));refine pD (.bool false) (iv 0) ?_;refine pD (.bool false) (.bool false) ?_;refine pD (.bool false) (iv 0) ?_;refine pD (.bool false) (.bool false) ?_;refine pD (.bool false) (iv 0) ?_;refine pD (.bool false) (.bool false) ?_;refine pD (.bool false) (iv 0) ?_;refine pD (.bool false) (.bool false) ?_;refine pD (.bool false) (iv 0) ?_;refine pD (.bool false) (.bool false) ?_;refine zn (cK [1,3,80] (fun L => ?_));refine zf ?_;refine cw_skip (zq (zc (zp (pU (.agg #[iv 2, .slice Cy 2 D2]) (xl (ld25 (Be.1) (Bg.1))) ?_))));refine pS (sc 13 #[.agg #[iv 2, .slice Cy 2 D2]] ((Fold_y _ _ (C2) (Ext.refl _) (hRl.ext hE) San.h5).mono ?_));rintro e Gf ⟨Dw, Hd, E6, rfl, E2, Fg, hb⟩;obtain rfl : 1 = Hd := E2.len;refine mv7 hb hE C0 Bc Bf C2 Be Bg fun hE C0 Bc Bf C2 Be Bg=>?_;have Dp := hb.size;have Bn := Ext.refl Gf;refine ⟨_, rfl, pD (.tuple #[.slice Dw 1 E6, iv 0]) (.slice Dw 1 E6) ?_⟩;refine pD (iv 0) (.slice Dw 1 E6) ?_;refine pT (iv 0) ?_;refine zn (zc (zp (pU (.agg #[iv 5, .slice D9 2 Da]) (xl (ld25 (Bc.1) (Bf.1))) ?_)));refine pS (sc 13 #[.agg #[iv 5, .slice D9 2 Da]] ((Fold_y _ _ (C0) (Ext.refl _) (hRl.ext hE) San.h6).mono ?_));rintro e Gg ⟨Dx, He, E7, rfl, E3, Fh, hb⟩;obtain rfl : 1 = He := E3.len;refine mv7 hb hE Bn C0 Bc Bf C2 Be fun hE Bn C0 Bc Bf C2 Be=>?_;replace Bg := Bg.x hb;have D1 := hb.size;have Bp := Ext.refl Gg;refine ⟨_, rfl, pD (.tuple #[.slice Dx 1 E7, iv 0]) (.slice Dx 1 E7) ?_⟩;refine pD (iv 0) (.slice Dx 1 E7) ?_;refine pT (iv 0) ?_;refine zn (cK [1,3,9,10,11,12] (fun L => ?_));refine zc (zp (pU (.agg #[iv 2, .slice Cy 2 D2]) (xl (ld25 (Be.1) (Bg.1))) ?_));refine pU (.agg #[iv 5, .slice D9 2 Da]) (xl (ld25 (Bc.1) (Bf.1))) ?_;refine pS (sc 28 #[.agg #[iv 2, .slice Cy 2 D2], .agg #[iv 5, .slice D9 2 Da]] ((Behind_y _ _ _ (C2) (Ext.refl _) (C0) (Ext.refl _) (hRl.ext hE) San.h7).mono ?_));rintro e Gh ⟨Ed, Hf, Db, rfl, E4, Fi, hb⟩;obtain rfl : 1 = Hf := E4.len;refine mv9 hb hE Bn Bp C0 Bc Bf C2 Be Bg fun hE Bn Bp C0 Bc Bf C2 Be Bg=>?_;have Cr := hb.size;have Bq := Ext.refl Gh;refine ⟨_, rfl, pD (.tuple #[.slice Ed 1 Db, iv 0]) (.slice Ed 1 Db) ?_⟩;refine pD (iv 0) (.slice Ed 1 Db) ?_;refine pT (iv 0) ?_;refine zn (zc (zp (pU (.agg #[iv 2, .slice Cy 2 D2]) (xl (ld25 (Be.1) (Bg.1))) ?_)));refine pU (.agg #[iv 5, .slice D9 2 Da]) (xl (ld25 (Bc.1) (Bf.1))) ?_;refine pS (sc 26 #[.agg #[iv 2, .slice Cy 2 D2], .agg #[iv 5, .slice D9 2 Da]] ((Merge_y _ _ _ (C2) (Ext.refl _) (C0) (Ext.refl _) (hRl.ext hE) San.h8).mono ?_));rintro e Gi ⟨Co, Hg, Cs, rfl, Ct, Fj, Fk, hb⟩;obtain rfl : 3 = Hg := Ct.len;refine mv7 hb hE Bn Bp Bq C2 Be Bg fun hE Bn Bp Bq C2 Be Bg=>?_;have Cm := hb.size;have Bi := Ext.refl Gi;refine ⟨_, rfl, pD (.tuple #[.agg #[iv 2, .slice Co 3 Cs], iv 0]) (.agg #[iv 2, .slice Co 3 Cs]) ?_⟩;refine pT (iv 0) ?_;refine pS (sw 25 #[iv 0, .slice none 0 0] ?_);intro Ec Gt Cv G7 hb hbx;have ⟨Br, Bu⟩ := bq2 hbx;refine mv5 hb hE Bn Bp Bq Bi fun hE Bn Bp Bq Bi=>?_;have Ca := hb.size;have G8 := Br.lt;refine pP (sn_set2 (O := Ec) (j := 0) (v := iv 2) (v' := .slice Co 3 Cs) (xt (pw Ec 0) (.agg #[iv 2, .slice Co 3 Cs]) (st25 Br.1 Br.2 Bu.1 Bu.2)) Br Bu ?_);intro Ei ho Br Bu hk;replace hE := ho.ext hE (by omega);replace Bn := ho.ext Bn (T (T D1 (T Cr Cm)) (Nat.le_of_eq Cv));replace Bp := ho.ext Bp (T (T Cr Cm) (Nat.le_of_eq Cv));replace Bq := ho.ext Bq (T Cm (Nat.le_of_eq Cv));replace Bi := ho.ext Bi (Nat.le_of_eq Cv);have Cb := Nat.le_of_eq ho.size.symm;clear ho hk;refine pT (iv 0) ?_;refine zn (cK [1,9,10,11,12,13,14,15,16] (fun L => ?_));refine zc (zp (pU (.agg #[iv 2, .slice Co 3 Cs]) (xl (ld25 (Br.1) (Bu.1))) ?_))
 refine pS (sc 13 #[.agg #[iv 2, .slice Co 3 Cs]] ((Fold_y _ _ ((Ct.ext Bi)) (Ext.refl _) (hRl.ext hE) San.h9).mono ?_));rintro e E8 ⟨D3, F2, D6, rfl, Di, Eo, hb⟩;obtain rfl : 1 = F2 := Di.len;refine mv7 hb hE Bn Bp Bq Bi Br Bu fun hE Bn Bp Bq Bi Br Bu=>?_;have Cc := hb.size;have Bj := Ext.refl E8;refine ⟨_, rfl, pD (.tuple #[.slice D3 1 D6, iv 0]) (.slice D3 1 D6) ?_⟩;refine pD (iv 0) (.slice D3 1 D6) ?_;refine pT (iv 0) ?_;refine zn (cK [1,9,10,11,12,13,14,15,16,17,18] (fun L => ?_));refine zc (zp (pU (.agg #[iv 2, .slice Co 3 Cs]) (xl (ld25 (Br.1) (Bu.1))) ?_));refine pS (sc 24 #[.agg #[iv 2, .slice Co 3 Cs], iv 2, iv 1] ((History_y _ _ ((Ct.ext Bi)) (Ext.refl _) (hRl.ext hE) San.h10).mono ?_));rintro e E9 ⟨D4, F3, D7, rfl, Dj, Ep, hb⟩;obtain rfl : 3 = F3 := Dj.len;refine mv7 hb hE Bn Bp Bq Bi Bj Br fun hE Bn Bp Bq Bi Bj Br=>?_;replace Bu := Bu.x hb;have C6 := hb.size;have Bm := Ext.refl E9;refine ⟨_, rfl, pD (.tuple #[.slice D4 3 D7, iv 0]) (.slice D4 3 D7) ?_⟩;refine pD (iv 0) (.slice D4 3 D7) ?_;refine pT (iv 0) ?_;refine zn (cK [1,9,10,11,12,13,14,15,16,17,18,19,20] (fun L => ?_));refine zc (zp (pU (.agg #[iv 2, .slice Co 3 Cs]) (xl (ld25 (Br.1) (Bu.1))) ?_));refine pS (sc 24 #[.agg #[iv 2, .slice Co 3 Cs], iv 3, iv 1] ((History_n _ _ ((Ct.ext Bi)) (Ext.refl _) (hRl.ext hE) San.h11).mono ?_));rintro e Hh ⟨rfl, hb⟩;refine mv9 hb hE Bn Bp Bq Bi Bj Bm Br Bu fun hE Bn Bp Bq Bi Bj Bm Br Bu=>?_;have C3 := hb.size;refine ⟨_, rfl, pD (.tuple #[.slice none 0 0, iv 350]) (.slice none 0 0) ?_⟩;refine pD (iv 350) (.slice none 0 0) ?_;refine pT (iv 350) ?_;refine zn (cK [1,9,10,11,12,13,14,15,16,17,18,19,20,22] (fun L => ?_));refine zc (zp (pS (sc 33 #[iv 16] ((New_n (c := 16) _ (by omega) (hRl.ext hE)).mono ?_))));rintro e Ea ⟨rfl, hb⟩;refine mv9 hb hE Bn Bp Bq Bi Bj Bm Br Bu fun hE Bn Bp Bq Bi Bj Bm Br Bu=>?_;have C4 := hb.size;have Bh := Ext.refl Ea;refine ⟨_, rfl, pD (.tuple #[.agg #[iv 0, .slice none 0 0], iv 350]) (.agg #[iv 0, .slice none 0 0]) ?_⟩;refine pT (iv 350) ?_;refine pS (sw 25 #[iv 0, .slice none 0 0] ?_);intro Dv Ej C7 Er hb hbx;have ⟨C8, Cd⟩ := bq2 hbx;refine mv7 hb hE Bn Bp Bq Bi Bj Bm fun hE Bn Bp Bq Bi Bj Bm=>?_;replace Bh := Bh.trans hb;have Ch := hb.size;have G9 := C8.lt;refine pP (sn_set2 (O := Dv) (j := 0) (v := iv 0) (v' := .slice none 0 0) (xt (pw Dv 0) (.agg #[iv 0, .slice none 0 0]) (st25 C8.1 C8.2 Cd.1 Cd.2)) C8 Cd ?_);intro Dm ho C8 Cd hk;replace hE := ho.ext hE (by omega);replace Bn := ho.ext Bn (by omega);replace Bp := ho.ext Bp (by omega);replace Bq := ho.ext Bq (by omega);replace Bi := ho.ext Bi (by omega);replace Bj := ho.ext Bj (T (T C6 (T C3 C4)) (Nat.le_of_eq C7));replace Bm := ho.ext Bm (T (T C3 C4) (Nat.le_of_eq C7));replace Bh := ho.ext Bh (Nat.le_of_eq C7);have Ci := Nat.le_of_eq ho.size.symm;clear ho hk;refine pT (iv 350) ?_;refine zn (cK [1,9,10,11,12,13,14,15,16,17,18,19,20,22,24] (fun L => ?_));refine zc (zc (zp (pD (iv 0) (.bool false) ?_)));refine pD (.bool false) (iv 0) ?_;refine pD (.bool false) (.bool false) ?_;refine pD (.bool false) (iv 0) ?_;refine pD (.bool false) (.bool false) ?_;refine pD (.bool false) (iv 0) ?_;refine pD (.bool false) (.bool false) ?_;refine pD (.bool false) (iv 0) ?_;refine pD (.bool false) (.bool false) ?_;refine pD (.bool false) (iv 0) ?_;refine pD (.bool false) (.bool false) ?_;refine pD (.bool false) (iv 350) ?_;refine pD (.bool false) (.bool false) ?_;refine pD (.bool false) (iv 350) ?_;refine pD (.bool false) (.bool false) ?_;refine pD (.bool false) (.slice Ed 1 Db) ?_;refine pD (iv 1) (.bool false) ?_;refine pT (.bool false) ?_;refine zn (cK [1,9,11,13,15,17,19,156] (fun L => ?_));refine zf ?_;refine cw_skip (qw_then ?_);refine cw_seq ?_;have B0 := Ext.refl Dm;have Em := (E4.ext Bq);obtain ⟨b9, o9, Gy, En, C1⟩ := Em.parts;have H3 := Em.len;have H4 := Em.max;have Gz := En (by omega);obtain rfl := Gy (by omega);refine zp (pT (sv b9 o9 1 Db) ?_);refine pU (pw b9 o9) (xi (sv b9 o9 1 Db) (iv ((0 : Nat) : Int)) (ix23 (k := 0) (by omega))) ?_;refine pU (.agg #[iv ((recN San.lB 0).c : Int), iv ((recN San.lB 0).n : Int), iv ((recN San.lB 0).t : Int), iv ((recN San.lB 0).o : Int), iv ((recN San.lB 0).w : Int), iv ((recN San.lB 0).k : Int), .string ((recN San.lB 0).x)]) (xl (ld49 (C1.c0 (i := 0) (by omega)) (C1.c1 (i := 0) (by omega)) (C1.c2 (i := 0) (by omega)) (C1.c3 (i := 0) (by omega)) (C1.c4 (i := 0) (by omega)) (C1.c5 (i := 0) (by omega)) (C1.c6 (i := 0) (by omega)))) ?_;refine pS (sc 31 #[.agg #[iv ((recN San.lB 0).c : Int), iv ((recN San.lB 0).n : Int), iv ((recN San.lB 0).t : Int), iv ((recN San.lB 0).o : Int), iv ((recN San.lB 0).w : Int), iv ((recN San.lB 0).k : Int), .string ((recN San.lB 0).x)]] ((Encode_y (x := (recN San.lB 0)) _ (hRl.ext hE) San.h12).mono ?_));rintro e Hi ⟨rfl, hb⟩;refine mv7 hb hE Bn Bp Bi Bj Bm Bh fun hE Bn Bp Bi Bj Bm Bh=>?_;replace B0 := B0.trans hb;have Ce := hb.size
 refine ⟨_, rfl, pD (.tuple #[.string (Rep.encR (recN San.lB 0)), iv 0]) (.string (Rep.encR (recN San.lB 0))) ?_⟩;refine pD (iv 0) (.string (Rep.encR (recN San.lB 0))) ?_;refine pT (iv 0) ?_;refine zn (cK [1,9,11,13,15,17,19,25,26] (fun L => ?_));refine zc (zp (pT (.string (Rep.encR (recN San.lB 0))) ?_));refine pS (sc 35 #[.string (Rep.encR (recN San.lB 0))] ((Decode_y (x := (recN San.lB 0)) _ San.hs (hRl.ext hE) San.h13).mono ?_));rintro e Eb ⟨rfl, hb⟩;refine mv7 hb hE Bn Bp Bi Bj Bm Bh fun hE Bn Bp Bi Bj Bm Bh=>?_;replace B0 := B0.trans hb;have Cf := hb.size;have Bt := Ext.refl Eb;refine ⟨_, rfl, pD (.tuple #[.agg #[iv ((recN San.lB 0).c : Int), iv ((recN San.lB 0).n : Int), iv ((recN San.lB 0).t : Int), iv ((recN San.lB 0).o : Int), iv ((recN San.lB 0).w : Int), iv ((recN San.lB 0).k : Int), .string ((recN San.lB 0).x)], iv 0]) (.agg #[iv ((recN San.lB 0).c : Int), iv ((recN San.lB 0).n : Int), iv ((recN San.lB 0).t : Int), iv ((recN San.lB 0).o : Int), iv ((recN San.lB 0).w : Int), iv ((recN San.lB 0).k : Int), .string ((recN San.lB 0).x)]) ?_⟩;refine pT (iv 0) ?_;refine pS (sw 49 #[iv 0, iv 0, iv 0, iv 0, iv 0, iv 0, .string (⟨#[]⟩)] ?_);intro Cn Ek C5 Es hb hbx;have ⟨B2, B3, B4, B7, B8, Ba, Bb⟩ := bq7 hbx;refine mv7 hb hE Bn Bp Bi Bj Bm Bh fun hE Bn Bp Bi Bj Bm Bh=>?_;replace B0 := B0.trans hb;have Fl := hb.size;have Ga := B2.lt;refine pP (sn_setK7 (O := Cn) (j := 0) (v0 := iv ((recN San.lB 0).c : Int)) (v1 := iv ((recN San.lB 0).n : Int)) (v2 := iv ((recN San.lB 0).t : Int)) (v3 := iv ((recN San.lB 0).o : Int)) (v4 := iv ((recN San.lB 0).w : Int)) (v5 := iv ((recN San.lB 0).k : Int)) (v6 := .string ((recN San.lB 0).x)) (xt (pw Cn 0) (.agg #[iv ((recN San.lB 0).c : Int), iv ((recN San.lB 0).n : Int), iv ((recN San.lB 0).t : Int), iv ((recN San.lB 0).o : Int), iv ((recN San.lB 0).w : Int), iv ((recN San.lB 0).k : Int), .string ((recN San.lB 0).x)]) (st49 B2.1 B2.2 B3.1 B3.2 B4.1 B4.2 B7.1 B7.2 B8.1 B8.2 Ba.1 Ba.2 Bb.1 Bb.2)) B2 B3 B4 B7 B8 Ba Bb ?_);intro El ho B2 B3 B4 B7 B8 Ba Bb hk;replace hE := ho.ext hE (by omega);replace Bn := ho.ext Bn (by omega);replace Bp := ho.ext Bp (by omega);replace Bi := ho.ext Bi (by omega);replace Bj := ho.ext Bj (by omega);replace Bm := ho.ext Bm (by omega);replace Bh := ho.ext Bh (by omega);replace B0 := ho.ext B0 (T (T Ce Cf) (Nat.le_of_eq C5));have Fm := Nat.le_of_eq ho.size.symm;clear ho hk;refine pT (iv 0) ?_;refine zn (cK [1,9,11,13,15,17,19,26,27,28] (fun L => ?_));refine zc (zp (pT (.slice Dw 1 E6) ?_));refine pS (sn_newS (us := #[.string (⟨#[115, 116, 97, 105, 110, 101, 100]⟩)]) (t := 9) (k := 1) (c := 1) (by kernel_rfl) ?_);intro Ee Gk Ey Et hb hbx;have Bk := bq1 hbx;refine mv12 hb hE Bn Bp Bi Bj Bm Bh B0 B2 B3 B4 B7 fun hE Bn Bp Bi Bj Bm Bh B0 B2 B3 B4 B7=>?_;refine mv3 hb B8 Ba Bb fun B8 Ba Bb=>?_;have Fo := hb.size;have Gb := Bk.lt;refine pS (sc 41 #[.slice Dw 1 E6, sv Ee 0 1 1] ((texts_y _ _ _ ((E2.ext Bn)) (Ext.refl _) (TxtB.one Bk)).mono ?_));rintro e Hj ⟨rfl, hb⟩;refine mv12 hb hE Bp Bi Bj Bm Bh B0 B2 B3 B4 B7 B8 fun hE Bp Bi Bj Bm Bh B0 B2 B3 B4 B7 B8=>?_;refine mv2 hb Ba Bb fun Ba Bb=>?_;have Fp := hb.size;refine ⟨_, rfl, pD (.bool true) (.slice Dx 1 E7) ?_⟩;refine pS (sn_newS (us := #[.string (⟨#[99, 114, 97, 99, 107, 101, 100]⟩)]) (t := 9) (k := 1) (c := 1) (by kernel_rfl) ?_);intro Ef Gl Ez Eu hb hbx;have Bo := bq1 hbx;refine mv12 hb hE Bp Bi Bj Bm Bh B0 B2 B3 B4 B7 B8 fun hE Bp Bi Bj Bm Bh B0 B2 B3 B4 B7 B8=>?_;refine mv2 hb Ba Bb fun Ba Bb=>?_;have Fq := hb.size;have Gc := Bo.lt;refine pS (sc 41 #[.slice Dx 1 E7, sv Ef 0 1 1] ((texts_y _ _ _ ((E3.ext Bp)) (Ext.refl _) (TxtB.one Bo)).mono ?_));rintro e Hk ⟨rfl, hb⟩;refine mv12 hb hE Bi Bj Bm Bh B0 B2 B3 B4 B7 B8 Ba fun hE Bi Bj Bm Bh B0 B2 B3 B4 B7 B8 Ba=>?_;replace Bb := Bb.x hb;have Fr := hb.size;refine ⟨_, rfl, pD (.bool true) (.bool true) ?_⟩;refine pT (.slice D3 1 D6) ?_;refine pS (sn_newS (us := #[.string (⟨#[99, 114, 97, 99, 107, 101, 100]⟩)]) (t := 9) (k := 1) (c := 1) (by kernel_rfl) ?_);intro Eg Gm F0 Ev hb hbx;have Bs := bq1 hbx;refine mv12 hb hE Bi Bj Bm Bh B0 B2 B3 B4 B7 B8 Ba fun hE Bi Bj Bm Bh B0 B2 B3 B4 B7 B8 Ba=>?_;replace Bb := Bb.x hb;have Fs := hb.size;have Gd := Bs.lt
 refine pS (sc 41 #[.slice D3 1 D6, sv Eg 0 1 1] ((texts_y _ _ _ ((Di.ext Bj)) (Ext.refl _) (TxtB.one Bs)).mono ?_));rintro e Hl ⟨rfl, hb⟩;refine mv12 hb hE Bi Bm Bh B0 B2 B3 B4 B7 B8 Ba Bb fun hE Bi Bm Bh B0 B2 B3 B4 B7 B8 Ba Bb=>?_;have Ft := hb.size;refine ⟨_, rfl, pD (.bool true) (.bool true) ?_⟩;refine pT (.slice D4 3 D7) ?_;refine pS (sn_newS (us := #[.string (⟨#[119, 104, 111, 108, 101]⟩), .string (⟨#[115, 116, 97, 105, 110, 101, 100]⟩), .string (⟨#[99, 114, 97, 99, 107, 101, 100]⟩)]) (t := 9) (k := 3) (c := 3) (by kernel_rfl) ?_);intro Eh Gn F1 Ew hb hbx;have ⟨Bv, Bx, By⟩ := bq3 hbx;refine mv12 hb hE Bi Bm Bh B0 B2 B3 B4 B7 B8 Ba Bb fun hE Bi Bm Bh B0 B2 B3 B4 B7 B8 Ba Bb=>?_;have Fu := hb.size;have Ge := Bv.lt;refine pS (sc 41 #[.slice D4 3 D7, sv Eh 0 3 3] ((texts_y _ _ _ ((Dj.ext Bm)) (Ext.refl _) (TxtB.three Bv Bx By)).mono ?_));rintro e Hm ⟨rfl, hb⟩;refine mv9 hb hE Bi Bh B0 B2 B3 B4 B7 B8 fun hE Bi Bh B0 B2 B3 B4 B7 B8=>?_;refine mv2 hb Ba Bb fun Ba Bb=>?_;have Fv := hb.size;refine ⟨_, rfl, pD (.bool true) (.bool true) ?_⟩;refine zn (cK [1,13,15,26,27,28,29] (fun L => ?_));refine zc (dE Tz62_0 (fun w' => w'.cell? ⟨Cn, 0, none⟩ = some (iv ((recN San.lB 0).c : Int)) ∧ w'.cell? ⟨Cn, 1, none⟩ = some (iv ((recN San.lB 0).n : Int)) ∧ w'.cell? ⟨Cn, 2, none⟩ = some (iv ((recN San.lB 0).t : Int)) ∧ w'.cell? ⟨Cn, 3, none⟩ = some (iv ((recN San.lB 0).o : Int)) ∧ w'.cell? ⟨Cn, 4, none⟩ = some (iv ((recN San.lB 0).w : Int)) ∧ w'.cell? ⟨Cn, 5, none⟩ = some (iv ((recN San.lB 0).k : Int)) ∧ w'.cell? ⟨Cn, 6, none⟩ = some (.string ((recN San.lB 0).x)) ∧ w'.cell? ⟨b9, o9, none⟩ = some (iv ((recN San.lB 0).c : Int)) ∧ w'.cell? ⟨b9, o9 + 1, none⟩ = some (iv ((recN San.lB 0).n : Int)) ∧ w'.cell? ⟨b9, o9 + 2, none⟩ = some (iv ((recN San.lB 0).t : Int)) ∧ w'.cell? ⟨b9, o9 + 3, none⟩ = some (iv ((recN San.lB 0).o : Int)) ∧ w'.cell? ⟨b9, o9 + 4, none⟩ = some (iv ((recN San.lB 0).w : Int)) ∧ w'.cell? ⟨b9, o9 + 5, none⟩ = some (iv ((recN San.lB 0).k : Int)) ∧ w'.cell? ⟨b9, o9 + 6, none⟩ = some (.string ((recN San.lB 0).x)) ∧ w'.cell? ⟨Ec, 0, none⟩ = some (iv 2) ∧ w'.cell? ⟨Ec, 1, none⟩ = some (.slice Co 3 Cs) ∧ w'.cell? ⟨O3, 0, none⟩ = some (iv 2) ∧ w'.cell? ⟨O3, 1, none⟩ = some (.slice Cy 2 D2)) (⟨B2.1, B3.1, B4.1, B7.1, B8.1, Ba.1, Bb.1, (C1.ext B0).c0 (i := 0) (by omega), (C1.ext B0).c1 (i := 0) (by omega), (C1.ext B0).c2 (i := 0) (by omega), (C1.ext B0).c3 (i := 0) (by omega), (C1.ext B0).c4 (i := 0) (by omega), (C1.ext B0).c5 (i := 0) (by omega), (C1.ext B0).c6 (i := 0) (by omega), (Br.x Bh).1, (Bu.x Bh).1, (Be.x Bi).1, (Bg.x Bi).1⟩) (fun ops Q Gp hb hL hR hK => ?_));refine mv9 hb hE Bi Bh B0 B2 B3 B4 B7 B8 fun hE Bi Bh B0 B2 B3 B4 B7 B8=>?_;refine mv2 hb Ba Bb fun Ba Bb=>?_;have Fw := hb.size;have hS := A18 B2.1 B3.1 B4.1 B7.1 B8.1 Ba.1 Bb.1 ((C1.ext B0).c0 (i := 0) (by omega)) ((C1.ext B0).c1 (i := 0) (by omega)) ((C1.ext B0).c2 (i := 0) (by omega)) ((C1.ext B0).c3 (i := 0) (by omega)) ((C1.ext B0).c4 (i := 0) (by omega)) ((C1.ext B0).c5 (i := 0) (by omega)) ((C1.ext B0).c6 (i := 0) (by omega)) (Br.c Bh) (Bu.c Bh) (Be.c Bi) (Bg.c Bi);refine wW 0 (.bool true) 1 (.bool true) hR hS ?_;refine wW 2 (iv 0) 3 (.bool true) hR hS ?_;refine wW 4 (.bool true) 5 (.bool true) hR hS ?_;refine wW 6 (iv 0) 7 (.bool true) hR hS ?_;refine wW 8 (.bool true) 9 (.bool true) hR hS ?_;refine wM 10 (.agg #[iv ((recN San.lB 0).c : Int), iv ((recN San.lB 0).n : Int), iv ((recN San.lB 0).t : Int), iv ((recN San.lB 0).o : Int), iv ((recN San.lB 0).w : Int), iv ((recN San.lB 0).k : Int), .string ((recN San.lB 0).x)]) hR (fun w hS => ld49 (hS.1) (hS.2.1) (hS.2.2.1) (hS.2.2.2.1) (hS.2.2.2.2.1) (hS.2.2.2.2.2.1) (hS.2.2.2.2.2.2.1)) hS ?_;refine wV 11 (sv b9 o9 1 Db) hR hS ?_;refine wL 12 (pw b9 o9) hR (fun w _ => ex_index (p := sv b9 o9 1 Db) (i := iv ((0 : Nat) : Int)) rfl (by kernel_rfl) (by kernel_rfl) (ix23 (k := 0) (by omega))) hS ?_;refine wM 13 (.agg #[iv ((recN San.lB 0).c : Int), iv ((recN San.lB 0).n : Int), iv ((recN San.lB 0).t : Int), iv ((recN San.lB 0).o : Int), iv ((recN San.lB 0).w : Int), iv ((recN San.lB 0).k : Int), .string ((recN San.lB 0).x)]) hR (fun w hS => ld49 (hS.2.2.2.2.2.2.2.1) (hS.2.2.2.2.2.2.2.2.1) (hS.2.2.2.2.2.2.2.2.2.1) (hS.2.2.2.2.2.2.2.2.2.2.1) (hS.2.2.2.2.2.2.2.2.2.2.2.1) (hS.2.2.2.2.2.2.2.2.2.2.2.2.1) (hS.2.2.2.2.2.2.2.2.2.2.2.2.2.1)) hS ?_;refine wL 14 (.bool true) hR (fun w _ => ex_binV (a := .agg #[iv ((recN San.lB 0).c : Int), iv ((recN San.lB 0).n : Int), iv ((recN San.lB 0).t : Int), iv ((recN San.lB 0).o : Int), iv ((recN San.lB 0).w : Int), iv ((recN San.lB 0).k : Int), .string ((recN San.lB 0).x)]) (b := .agg #[iv ((recN San.lB 0).c : Int), iv ((recN San.lB 0).n : Int), iv ((recN San.lB 0).t : Int), iv ((recN San.lB 0).o : Int), iv ((recN San.lB 0).w : Int), iv ((recN San.lB 0).k : Int), .string ((recN San.lB 0).x)]) rfl (by kernel_rfl) (by kernel_rfl) (eqG_agg (by kernel_rfl)) (bin_eqv_t (rec_eq _ ((recN San.lB 0)) ((recN San.lB 0))) rfl)) hS ?_;refine wW 15 (.bool true) 16 (.bool true) hR hS ?_;refine wV 17 (sv b9 o9 1 Db) hR hS ?_;refine wL 18 (pw b9 o9) hR (fun w _ => ex_index (p := sv b9 o9 1 Db) (i := iv ((0 : Nat) : Int)) rfl (by kernel_rfl) (by kernel_rfl) (ix23 (k := 0) (by omega))) hS ?_
 refine wM 19 (.agg #[iv ((recN San.lB 0).c : Int), iv ((recN San.lB 0).n : Int), iv ((recN San.lB 0).t : Int), iv ((recN San.lB 0).o : Int), iv ((recN San.lB 0).w : Int), iv ((recN San.lB 0).k : Int), .string ((recN San.lB 0).x)]) hR (fun w hS => ld49 (hS.2.2.2.2.2.2.2.1) (hS.2.2.2.2.2.2.2.2.1) (hS.2.2.2.2.2.2.2.2.2.1) (hS.2.2.2.2.2.2.2.2.2.2.1) (hS.2.2.2.2.2.2.2.2.2.2.2.1) (hS.2.2.2.2.2.2.2.2.2.2.2.2.1) (hS.2.2.2.2.2.2.2.2.2.2.2.2.2.1)) hS ?_;refine wV 20 (.agg #[iv 5, iv 1, iv 200, iv 2, iv 1, iv 1, .string (⟨#[99, 114, 97, 99, 107, 101, 100]⟩)]) hR hS ?_;refine wL 21 (.bool true) hR (fun w _ => ex_binV (a := .agg #[iv ((recN San.lB 0).c : Int), iv ((recN San.lB 0).n : Int), iv ((recN San.lB 0).t : Int), iv ((recN San.lB 0).o : Int), iv ((recN San.lB 0).w : Int), iv ((recN San.lB 0).k : Int), .string ((recN San.lB 0).x)]) (b := .agg #[iv 5, iv 1, iv 200, iv 2, iv 1, iv 1, .string (⟨#[99, 114, 97, 99, 107, 101, 100]⟩)]) rfl (by kernel_rfl) (by kernel_rfl) (eqG_agg (by kernel_rfl)) (bin_eqv_t (rec_eq _ ((recN San.lB 0)) ((⟨5, 1, 200, 2, 1, 1, ⟨#[99, 114, 97, 99, 107, 101, 100]⟩⟩ : Rec))) rfl)) hS ?_;refine wW 22 (.bool true) 23 (.bool true) hR hS ?_;refine wM 24 (.agg #[iv 2, .slice Co 3 Cs]) hR (fun w hS => ld25 (hS.2.2.2.2.2.2.2.2.2.2.2.2.2.2.1) (hS.2.2.2.2.2.2.2.2.2.2.2.2.2.2.2.1)) hS ?_;refine wC 25 16 #[.agg #[iv 2, .slice Co 3 Cs]] hR ((Valid_r (r := true) _ _ ((Ct.ext Bi)) (Ext.refl _) (hRl.ext hE) San.h14).mono ?_);rintro e F4 ⟨rfl, hb⟩;refine mv9 hb hE Bi Bh B0 B2 B3 B4 B7 B8 fun hE Bi Bh B0 B2 B3 B4 B7 B8=>?_;refine mv2 hb Ba Bb fun Ba Bb=>?_;have Fx := hb.size;have hS := A18 B2.1 B3.1 B4.1 B7.1 B8.1 Ba.1 Bb.1 ((C1.ext B0).c0 (i := 0) (by omega)) ((C1.ext B0).c1 (i := 0) (by omega)) ((C1.ext B0).c2 (i := 0) (by omega)) ((C1.ext B0).c3 (i := 0) (by omega)) ((C1.ext B0).c4 (i := 0) (by omega)) ((C1.ext B0).c5 (i := 0) (by omega)) ((C1.ext B0).c6 (i := 0) (by omega)) (Br.c Bh) (Bu.c Bh) (Be.c Bi) (Bg.c Bi);refine ⟨_, rfl, hS, ?_⟩;refine wW 26 (.bool true) 27 (.bool true) hR hS ?_;refine wV 28 (.agg #[iv (-1 : Int), .slice none 0 0]) hR hS ?_;refine wC 29 16 #[.agg #[iv (-1 : Int), .slice none 0 0]] hR ((Valid_r (r := false) _ _ (RecsAt.nil F4) (Ext.refl _) (hRl.ext hE) San.h15).mono ?_);rintro e Hn ⟨rfl, hb⟩;refine mv9 hb hE Bi Bh B0 B2 B3 B4 B7 B8 fun hE Bi Bh B0 B2 B3 B4 B7 B8=>?_;refine mv2 hb Ba Bb fun Ba Bb=>?_;have Fy := hb.size;have hS := A18 B2.1 B3.1 B4.1 B7.1 B8.1 Ba.1 Bb.1 ((C1.ext B0).c0 (i := 0) (by omega)) ((C1.ext B0).c1 (i := 0) (by omega)) ((C1.ext B0).c2 (i := 0) (by omega)) ((C1.ext B0).c3 (i := 0) (by omega)) ((C1.ext B0).c4 (i := 0) (by omega)) ((C1.ext B0).c5 (i := 0) (by omega)) ((C1.ext B0).c6 (i := 0) (by omega)) (Br.c Bh) (Bu.c Bh) (Be.c Bi) (Bg.c Bi);refine ⟨_, rfl, hS, ?_⟩;refine wW 30 (.bool true) 31 (.bool true) hR hS ?_;refine wV 32 (.bool true) hR hS ?_;refine wM 33 (.agg #[iv 2, .slice Co 3 Cs]) hR (fun w hS => ld25 (hS.2.2.2.2.2.2.2.2.2.2.2.2.2.2.1) (hS.2.2.2.2.2.2.2.2.2.2.2.2.2.2.2.1)) hS ?_;refine wM 34 (.agg #[iv 2, .slice Co 3 Cs]) hR (fun w hS => ld25 (hS.2.2.2.2.2.2.2.2.2.2.2.2.2.2.1) (hS.2.2.2.2.2.2.2.2.2.2.2.2.2.2.2.1)) hS ?_;refine wC 35 30 #[.agg #[iv 2, .slice Co 3 Cs], .agg #[iv 2, .slice Co 3 Cs]] hR ((Same_r _ _ _ ((Ct.ext Bi)) (Ext.refl _) ((Ct.ext Bi)) (Ext.refl _) San.h16).mono ?_);rintro e Ho ⟨rfl, hb⟩;refine mv9 hb hE Bi Bh B0 B2 B3 B4 B7 B8 fun hE Bi Bh B0 B2 B3 B4 B7 B8=>?_;refine mv2 hb Ba Bb fun Ba Bb=>?_;have Fz := hb.size;have hS := A18 B2.1 B3.1 B4.1 B7.1 B8.1 Ba.1 Bb.1 ((C1.ext B0).c0 (i := 0) (by omega)) ((C1.ext B0).c1 (i := 0) (by omega)) ((C1.ext B0).c2 (i := 0) (by omega)) ((C1.ext B0).c3 (i := 0) (by omega)) ((C1.ext B0).c4 (i := 0) (by omega)) ((C1.ext B0).c5 (i := 0) (by omega)) ((C1.ext B0).c6 (i := 0) (by omega)) (Br.c Bh) (Bu.c Bh) (Be.c Bi) (Bg.c Bi);refine ⟨_, rfl, hS, ?_⟩;refine wW 36 (.bool true) 37 (.bool true) hR hS ?_;refine wM 38 (.agg #[iv 2, .slice Co 3 Cs]) hR (fun w hS => ld25 (hS.2.2.2.2.2.2.2.2.2.2.2.2.2.2.1) (hS.2.2.2.2.2.2.2.2.2.2.2.2.2.2.2.1)) hS ?_;refine wM 39 (.agg #[iv 2, .slice Cy 2 D2]) hR (fun w hS => ld25 (hS.2.2.2.2.2.2.2.2.2.2.2.2.2.2.2.2.1) (hS.2.2.2.2.2.2.2.2.2.2.2.2.2.2.2.2.2)) hS ?_;refine wC 40 30 #[.agg #[iv 2, .slice Co 3 Cs], .agg #[iv 2, .slice Cy 2 D2]] hR ((Same_r _ _ _ ((Ct.ext Bi)) (Ext.refl _) ((C2.ext Bi)) (Ext.refl _) San.h17).mono ?_);rintro e Hp ⟨rfl, hb⟩;refine mv9 hb hE Bi Bh B0 B2 B3 B4 B7 B8 fun hE Bi Bh B0 B2 B3 B4 B7 B8=>?_;refine mv2 hb Ba Bb fun Ba Bb=>?_;have G0 := hb.size;have hS := A18 B2.1 B3.1 B4.1 B7.1 B8.1 Ba.1 Bb.1 ((C1.ext B0).c0 (i := 0) (by omega)) ((C1.ext B0).c1 (i := 0) (by omega)) ((C1.ext B0).c2 (i := 0) (by omega)) ((C1.ext B0).c3 (i := 0) (by omega)) ((C1.ext B0).c4 (i := 0) (by omega)) ((C1.ext B0).c5 (i := 0) (by omega)) ((C1.ext B0).c6 (i := 0) (by omega)) (Br.c Bh) (Bu.c Bh) (Be.c Bi) (Bg.c Bi);refine ⟨_, rfl, hS, ?_⟩;refine wW 41 (.bool true) 42 (.bool true) hR hS ?_;refine wV 43 (.bool true) hR hS ?_;refine we hL hR hK ?_;refine zq (cK [0] (fun L => ?_));refine cw_ret (qw_ret [.bool true] rfl ⟨(by kernel_rfl), trivial⟩ ?_);exact ⟨rfl, hE⟩
end Go.Proofs.YtfmoabgjaclkpaaGreatDoor

namespace Go.Proofs.YtfmoabgjaclkpaaGreatDoor
namespace Rep
end Rep
end Go.Proofs.YtfmoabgjaclkpaaGreatDoor

namespace Go.Proofs.YtfmoabgjaclkpaaGreatDoor
open Go.ChangeShapes Go.WideShapes Go.ChangeAt Go.RowKit
theorem own : ownKnob Tryz.prog.godebug = none := by kernel_rfl
theorem laidOut : laidOutB Tryz.prog = true := by kernel_rfl
def laidTabs : List (String × DataW Unit) := [("nadir/replica.rootless", Rows.laid_nadir_replica_rootless)]
theorem gTab : Tryz.prog.globalNamed "nadir/replica.rootless" = some 0 := by kernel_rfl
theorem tTab : (Tryz.prog.globals[0]?).map (·.type) = some 70 := by kernel_rfl
theorem door_met (os : Os) (args : Array Value) : laidMetH Tryz.prog laidTabs ((World.doorLaid Tryz.prog 19 os).forCall (fun _ _ => 0) ⟨#[], args, []⟩).memory :=
 laidMetH_of_parts3 (fuel := 8) (laidMet_of_run' 8 (by kernel_rfl) (by kernel_rfl)) (by kernel_rfl) (by kernel_rfl)
set_option maxRecDepth 100000 in
theorem lit_two {t : TypeId} {f0 f1 : Field} {W : World} {fuel : Nat} {cs : Array Value} {z0 z1 : Int} {q : List MemPlace} (hu : Tryz.prog.underlying t = some (.struct #[f0, f1])) (h0 : f0.offset = 0) (h1 : f1.offset = 1) (t0 : f0.type = 3) (t1 : f1.type = 3) (h2 : Tryz.prog.cellsOf t = 2)
  (hf : DataW.trod (fun _ => ()) Tryz.prog W 0 (fun _ => true) false fuel t cs.toList = some (.agg [.lit (.int .i64 z0), .lit (.int .i64 z1)], q)) : cs = #[.int .i64 z0, .int .i64 z1] := by
 obtain ⟨xs, m, rfl, hx, hlen, hxl, hg⟩ := DataW.trod_struct hu hf
 have hone : Tryz.prog.cellsOf 3 = 1 := by kernel_rfl
 have g0 := hg 0 f0 rfl
 have g1 := hg 1 f1 rfl
 rw [h0, t0, hone] at g0
 rw [h1, t1, hone] at g1
 have hl : cs.toList.length = 2 := by rw [hlen, h2]
 obtain ⟨l⟩ := cs
 match l, hl, xs, hxl with
 | [x0, x1], _, [y0, y1], _ =>
  have hx1 := congrArg Prod.fst hx
  simp at hx1
  obtain ⟨n0, hn0, hv0, w0⟩ := DataW.trod_int Tryz.underlying3 (show _ = some y0 from g0)
  obtain ⟨n1, hn1, hv1, w1⟩ := DataW.trod_int Tryz.underlying3 (show _ = some y1 from g1)
  simp at hn0 hn1
  subst hv0; subst hv1; subst hn0; subst hn1
  simp at hx1
  obtain ⟨rfl, rfl⟩ := hx1
  rfl
theorem tab_of_laid {W : World} (h : laidMetH Tryz.prog laidTabs W) : RootAt W := by
 rw [MakeChecks.laidMetH_plain _ _ _ (by kernel_rfl)] at h
 obtain ⟨ps, ⟨g', t', cs, fuel, p, q, hg', ht', hvar, hd, _, _⟩, _⟩ := h
 obtain rfl := Option.some.inj (gTab.symm.trans hg')
 obtain rfl := Option.some.inj (tTab.symm.trans ht')
 obtain rfl := lit_two Tryz.underlying70 rfl rfl rfl rfl (by kernel_rfl) hd
 have h0 := World.var?_cell gTab hvar 0
 have h1 := World.var?_cell gTab hvar 1
 exact ⟨h0, h1, World.block_lt_of_cell? W _ h0⟩
theorem isI_of_wf {n : Int} (h : (Lit.int .i64 n).wf = true) : IsI n := by
 simp [Lit.wf, IntKind.min, IntKind.max, IntKind.signed, IntKind.bits] at h
 exact ⟨by omega, by omega⟩
end Go.Proofs.YtfmoabgjaclkpaaGreatDoor

namespace Go.Proofs.YtfmoabgjaclkpaaGreatDoor
open Go.ChangeShapes Go.WideShapes Go.ChangeAt Go.RowKit Go.Deep
section
variable {H : Type} {enc : TypeId × Value → H} {W : World}
theorem ints_of_array {spare : Nat → Bool} {held : Bool} {t : TypeId} {k fuel : Nat} {cs : List Value} {x : DataW H × List MemPlace} (ht : Tryz.prog.underlying t = some (.array k 3)) (h : DataW.trod enc Tryz.prog W 0 spare held fuel t cs = some x) (hc : cs.length = k) :
  ∃ q : Nat → Int, ∀ j, j < k → cs[j]? = some (.int .i64 (q j)) ∧ IsI (q j) := by
 obtain ⟨xs, m, rfl, hx, hlen, hxl, hg⟩ := DataW.trod_array ht h
 have hone : Tryz.prog.cellsOf 3 = 1 := by kernel_rfl
 have each : ∀ j, j < k → ∃ n : Int, cs[j]? = some (.int .i64 n) ∧ IsI n := fun j hj => by
  have h1 := hg j hj
  rw [hone, Nat.mul_one] at h1
  have hx : xs[j]? = some (xs[j]'(by omega)) := List.getElem?_eq_getElem (by omega)
  rw [hx] at h1
  obtain ⟨n, hn, _, hw⟩ := DataW.trod_int Tryz.underlying3 h1
  have hcj : cs[j]? = some (.int .i64 n) := by
   have e : ((cs.drop j).take 1)[0]? = some (.int .i64 n) := by rw [hn]; rfl
   rw [List.getElem?_take_of_lt (by omega), List.getElem?_drop, Nat.add_zero] at e
   exact e
  exact ⟨n, hcj, isI_of_wf hw⟩
 obtain ⟨q, hq⟩ := choose_lt each
 exact ⟨q, hq⟩
end
def Quads (w : World) (v : Value) : Prop := ∃ (a : Option Addr) (n c : Nat) (q : Nat → Nat → Int), v = .slice a n c ∧ n ≤ c ∧ c ≤ 9223372036854775807 ∧ (a = none → c = 0) ∧ QAt w a n q
section
variable {H : Type} {enc : TypeId × Value → H} {W : World}
set_option maxRecDepth 100000 in
theorem open_quads {b0 : Nat} {v : Value} {d : DataW H} {p : List MemPlace} (hval : Value.okWide Tryz.prog W .any b0 22 v) (h : DataW.Trod enc Tryz.prog W 0 (fun _ => true) true 22 v d p) : Quads W v := by
  obtain ⟨a, n, c, rfl⟩ := okWide_slice Tryz.underlying22 hval
  obtain ⟨fuel, hf⟩ := h
  rcases open_slice Tryz.underlying22 hf with ⟨hcs, _⟩ | ⟨a', len, cap, m, k, D, Pl, hcs, hb, hl, hm, hmm, _, hx⟩
  · simp [Value.cells] at hcs
    obtain ⟨rfl, rfl, rfl⟩ := hcs
    exact ⟨none, 0, 0, fun _ _ => 0, rfl, by omega, by omega, fun _ => rfl, .inl rfl⟩
  · simp [Value.cells] at hcs
    obtain ⟨rfl, rfl, rfl⟩ := hcs
    unfold maxLen at hm
    rcases Nat.eq_zero_or_pos n with h0 | h0
    · exact ⟨_, _, _, fun _ _ => 0, rfl, by omega, by omega, (fun e => by cases e), .inl h0⟩
    · have h4 : Tryz.prog.cellsOf 26 = 4 := by kernel_rfl
      rw [h4] at hx
      simp only [if_true] at hmm
      subst hmm
      have each : ∀ i, i < n → ∃ q : Nat → Int, ∀ j, j < 4 → W.cell? (a'.add (i * 4 + j)) = some (.int .i64 (q j)) ∧ IsI (q j) := fun i hi => by
        obtain ⟨cs', hc1, hc2⟩ := hx i (by omega)
        obtain ⟨_, hcl, hat⟩ := World.cells?_some hc1
        obtain ⟨q, hq⟩ := ints_of_array Tryz.underlying26 hc2 hcl
        refine ⟨q, fun j hj => ⟨?_, (hq j hj).2⟩⟩
        rw [← Go.Deep.add_add, hat j hj]
        exact (hq j hj).1
      obtain ⟨q, hq⟩ := choose_lt each
      obtain ⟨b, off, spot⟩ := a'
      have hspot : spot = none := by have := World.cell?_spot (hq 0 h0 0 (by omega)).1; simpa [Addr.add] using this
      subst hspot
      refine ⟨_, _, _, q, rfl, by omega, by omega, (fun e => by cases e), .inr ⟨b, off, rfl, fun i hi j hj => ?_⟩⟩
      have := hq i hi j hj
      rw [add_plain, ← Nat.add_assoc] at this
      exact this
end
def Txt (v : Value) : Prop := ∃ s : ByteArray, v = .string s ∧ s.size ≤ 9223372036854775807
def BytV (v : Value) : Prop := ∃ b : UInt8, v = .int .u8 ((b.toNat : Nat) : Int)
section
variable {H : Type} {enc : TypeId × Value → H} {W : World}
set_option maxRecDepth 100000 in
theorem open_text {b0 : Nat} {v : Value} {d : DataW H} {p : List MemPlace} (hval : Value.okWide Tryz.prog W .any b0 9 v) (h : DataW.Trod enc Tryz.prog W 0 (fun _ => true) true 9 v d p) : Txt v := by
 obtain ⟨s, rfl, _, _, hs⟩ := Go.ChangeMaps.open_string Tryz.underlying9 hval h
 exact ⟨s, rfl, T hs (by decide)⟩
set_option maxRecDepth 100000 in
theorem open_byte {b0 : Nat} {v : Value} {d : DataW H} {p : List MemPlace} (hval : Value.okWide Tryz.prog W .any b0 5 v) (h : DataW.Trod enc Tryz.prog W 0 (fun _ => true) true 5 v d p) : BytV v := by
 obtain ⟨n, rfl, _, _, hw⟩ := open_int Tryz.underlying5 hval h
 simp [Lit.wf, IntKind.min, IntKind.max, IntKind.signed, IntKind.bits] at hw
 refine ⟨UInt8.ofNat n.toNat, ?_⟩
 congr 1
 rw [UInt8.toNat_ofNat']
 omega
end
end Go.Proofs.YtfmoabgjaclkpaaGreatDoor

namespace Go.Proofs.YtfmoabgjaclkpaaGreatDoor
set_option maxRecDepth 1000000
set_option maxHeartbeats 4000000
set_option synthInstance.maxHeartbeats 0
set_option synthInstance.maxSize 9999
open Go.RowKit
namespace Rep
end Rep
end Go.Proofs.YtfmoabgjaclkpaaGreatDoor

namespace Go.Proofs.YtfmoabgjaclkpaaGreatDoor
namespace Rep
theorem more_miss {l1 l2 : List Rec} {x : Rec} (h : x ∈ more l1 l2) : findK l1 (x.c, x.n) = none := by
 unfold more at h
 rw [List.mem_filter, Bool.not_eq_true', Bool.eq_false_iff, Ne, hasK_iff] at h
 cases hf : findK l1 (x.c, x.n) with
 | none => rfl
 | some y => exact absurd ⟨y, (findK_some hf).1, (findK_some hf).2⟩ h.2
theorem more_sub {l1 l2 : List Rec} : ∀ x ∈ more l1 l2, x ∈ l2 := fun _x h => (List.mem_filter.1 h).1
structure Keep2 (a b : List Rec) (c d : Int) : Prop where
 m : mergeF c a d b = some (unionF a b)
 bh : behindF c a d b = some (more a b)
 z : behindF c (unionF a b) d b = some []
 k1 : keepsB (unionF a b) a = true
 k2 : keepsB (unionF a b) b = true
 k3 : keepsB b (more a b) = true
 len : (unionF a b).length = a.length + (more a b).length
 mi : ∀ x ∈ more a b, findK a (x.c, x.n) = none
 kd : keysD (unionF a b)
 kb : keysD b
theorem keep_merge {U a b : List Rec} (hU : keysD U) (h : In U a) (k : In U b) {c d : Int} (hc : 0 ≤ c ∧ c ≤ 15) (hd : 0 ≤ d ∧ d ≤ 15) (hn : U.length ≤ 80) : Keep2 a b c d := by
 have u := h.union hU k
 refine ⟨h.merge hU k hc hd hn, h.behind hU k hc hd hn, ?_, keeps_t fun x hx => (h.mem hU k).2 (.inl hx), keeps_t fun x hx => (h.mem hU k).2 (.inr hx), keeps_t more_sub, (h.uni hU k).len h.vd.srt k.vd.srt (h.cons hU k), fun x hx => more_miss hx, u.vd.keys, k.vd.keys⟩
 rw [u.behind hU k hc hd hn]
 congr 1
 refine List.eq_nil_iff_forall_not_mem.2 fun x hx => ?_
 obtain ⟨h1, h2⟩ := (mem_more (u.cons hU k)).1 hx
 exact h2 ((h.mem hU k).2 (.inr h1))
theorem Tri.keep {L : Nat → List Rec} (h : Tri 24 L) {i k : Nat} (hi : i < 3) (hk : k < 3) : Keep2 (L i) (L k) i k := by
 obtain ⟨U, hU, hUl, hUp, hIn⟩ := h.ex
 exact keep_merge hU (hIn i hi) (hIn k hk) (by omega) (by omega) (by omega)
end Rep
end Go.Proofs.YtfmoabgjaclkpaaGreatDoor

namespace Go.Proofs.YtfmoabgjaclkpaaGreatDoor
set_option maxRecDepth 1000000
set_option maxHeartbeats 4000000
set_option synthInstance.maxHeartbeats 0
set_option synthInstance.maxSize 9999
open Go.RowKit
end Go.Proofs.YtfmoabgjaclkpaaGreatDoor

namespace Go.Proofs.YtfmoabgjaclkpaaGreatDoor
namespace Rep
end Rep
end Go.Proofs.YtfmoabgjaclkpaaGreatDoor

namespace Go.Proofs.YtfmoabgjaclkpaaGreatDoor
set_option maxRecDepth 1000000
set_option maxHeartbeats 4000000
set_option synthInstance.maxHeartbeats 0
set_option synthInstance.maxSize 9999
open Go.RowKit
theorem RecsAt.lit {w : World} {O : Nat} {x : Rec} (h0 : BoxAt w O 0 (.int .i64 x.c)) (h1 : BoxAt w O 1 (.int .i64 x.n)) (h2 : BoxAt w O 2 (.int .i64 x.t)) (h3 : BoxAt w O 3 (.int .i64 x.o)) (h4 : BoxAt w O 4 (.int .i64 x.w)) (h5 : BoxAt w O 5 (.int .i64 x.k)) (h6 : BoxAt w O 6 (.string x.x)) : RecsAt w (some ⟨O, 0, none⟩) 1 [x] :=
 RecsW.at ⟨fun i y hy => by
  match i, hy with
  | 0, hy => cases hy; exact ⟨h0, h1, h2, h3, h4, h5, h6⟩
  | i + 1, hy => simp at hy⟩ rfl (by decide)
namespace Rep
theorem keysD.take {l : List Rec} (h : keysD l) (k : Nat) : keysD (l.take k) := List.Pairwise.sublist (List.take_sublist _ _) h
end Rep
end Go.Proofs.YtfmoabgjaclkpaaGreatDoor

namespace Go.Proofs.YtfmoabgjaclkpaaGreatDoor
namespace Rep
theorem bytes_encP (x : Rec) (i : Nat) : Wire.bytes (encP x (i + 1)) = Wire.bytes (encP x i) ++ Wire.vb (Wire.zz (fld x i)) := by
 show Wire.bytes (encP x i ++ Wire.encI (fld x i)) = _
 rw [Wire.bytes_app]; rfl
theorem fld_fits {x : Rec} (h : okR x = true) (i : Nat) : Wire.fits (fld x i) := by have := fld_ok h i; unfold Wire.fits; omega
theorem rd_at {A B R : List UInt8} {n : Int} (hn : Wire.fits n) (hB : B = Wire.vb (Wire.zz n)) : Wire.rdI (A ++ (B ++ R)) A.length = some (n, A.length + B.length) := by
 subst hB
 refine Wire.rdI_enc hn fun q hq => ?_
 rw [List.getElem?_append_right (by omega), show A.length + q - A.length = q by omega, List.getElem?_append_left hq]
theorem pre_dec {x : Rec} (hok : okR x = true) : ∀ (i : Nat) (R : List UInt8), ∃ f, decP (Wire.bytes (encP x i) ++ R) i = some (f, (Wire.bytes (encP x i)).length) ∧ ∀ j, j < i → f j = fld x j
  | 0, R => ⟨fun _ => 0, rfl, fun j hj => by omega⟩
  | i + 1, R => by
    obtain ⟨f, h1, h2⟩ := pre_dec hok i (Wire.vb (Wire.zz (fld x i)) ++ R)
    have hr := rd_at (A := Wire.bytes (encP x i)) (R := R) (fld_fits hok i) rfl
    have hn := decP_next h1 hr
    refine ⟨fun j => if j = i then fld x i else f j, ?_, fun j hj => ?_⟩
    · rw [bytes_encP, List.append_assoc, List.length_append]
      exact hn
    · show (if j = i then fld x i else f j) = fld x j
      split
      · rename_i e; rw [e]
      · exact h2 j (by omega)
theorem enc_dec {x : Rec} (hok : okR x = true) : decR (encR x) = some x := by
 have hs : Wire.bytes (encR x) = Wire.bytes (encP x 6) ++ (Wire.vb (Wire.zz ((x.x.size : Nat) : Int)) ++ Wire.bytes x.x) := by
  unfold encR Wire.encS
  rw [Wire.bytes_app, Wire.bytes_app]; rfl
 have hx := okR_is hok
 obtain ⟨f, h1, h2⟩ := pre_dec hok 6 (Wire.vb (Wire.zz ((x.x.size : Nat) : Int)) ++ Wire.bytes x.x)
 rw [← hs] at h1
 rw [decR_at h1]
 have hr := rd_at (A := Wire.bytes (encP x 6)) (R := Wire.bytes x.x) (n := ((x.x.size : Nat) : Int)) (by unfold Wire.fits; omega) rfl
 rw [← hs] at hr
 have hlen : (encR x).size = (Wire.bytes (encP x 6)).length + (Wire.vb (Wire.zz ((x.x.size : Nat) : Int))).length + x.x.size := by
  rw [← Wire.bytes_len, hs, List.length_append, List.length_append, Wire.bytes_len x.x]; omega
 have hos := Wire.rdS_some (s := encR x) hr (by omega)
 have hy : (encR x).extract ((Wire.bytes (encP x 6)).length + (Wire.vb (Wire.zz ((x.x.size : Nat) : Int))).length) ((Wire.bytes (encP x 6)).length + (Wire.vb (Wire.zz ((x.x.size : Nat) : Int))).length + x.x.size) = x.x := by
  apply Wire.bytes_eq
  rw [Wire.bytes_ext, hs, ← List.append_assoc, List.extract_eq_take_drop, ← List.length_append, List.drop_left, Nat.add_sub_cancel_left, ← Wire.bytes_len x.x, List.take_length]
 rw [hy] at hos
 have hrec : (⟨f 0, f 1, f 2, f 3 - 1, f 4, f 5, x.x⟩ : Rec) = x := by
  rw [h2 0 (by decide), h2 1 (by decide), h2 2 (by decide), h2 3 (by decide), h2 4 (by decide), h2 5 (by decide)]
  unfold fld
  simp
 rw [decT_ok hos ⟨by rw [hlen], by rw [hrec]; exact hok⟩, hrec]
def catI (f : Nat → Int) : Nat → List UInt8
 | 0 => []
 | i + 1 => catI f i ++ Wire.vb (Wire.zz (f i))
theorem catI_congr {f g : Nat → Int} : ∀ {i : Nat}, (∀ j, j < i → f j = g j) → catI f i = catI g i
 | 0, _ => rfl
 | i + 1, h => by unfold catI; rw [catI_congr (i := i) fun j hj => h j (by omega), h i (by omega)]
theorem encP_cat (x : Rec) : ∀ i, Wire.bytes (encP x i) = catI (fld x) i
 | 0 => rfl
 | i + 1 => by rw [bytes_encP, encP_cat x i]; rfl
theorem take_ext {s : List UInt8} {a b : Nat} (h : a ≤ b) : s.take a ++ s.extract a b = s.take b := by
 rw [List.extract_eq_take_drop]
 have := List.take_append_drop a (s.take b)
 rw [List.take_take, Nat.min_eq_left h, List.drop_take] at this
 exact this
theorem dec_pre {s : List UInt8} : ∀ {i : Nat} {f : Nat → Int} {a : Nat}, decP s i = some (f, a) → a ≤ s.length ∧ s.take a = catI f i
 | 0, f, a, h => by cases h; exact ⟨Nat.zero_le _, rfl⟩
 | i + 1, f, a, h => by
  unfold decP at h
  cases h1 : decP s i with
  | none => rw [h1] at h; cases h
  | some p =>
   obtain ⟨f1, a1⟩ := p
   rw [h1] at h; dsimp only at h
   cases h2 : Wire.rdI s a1 with
   | none => rw [h2] at h; cases h
   | some q =>
    obtain ⟨n, nx⟩ := q
    rw [h2] at h; dsimp only at h
    cases h
    obtain ⟨k1, k2⟩ := dec_pre h1
    obtain ⟨r1, r2, r3, r4⟩ := Wire.rdI_is h2
    refine ⟨r2, ?_⟩
    rw [← take_ext (Nat.le_of_lt r1), k2, r3]
    show _ = catI (fun j => if j = i then n else f1 j) i ++ Wire.vb (Wire.zz (if i = i then n else f1 i))
    rw [if_pos rfl, catI_congr (f := fun j => if j = i then n else f1 j) (g := f1) fun j hj => if_neg (by omega)]
theorem dec_enc {s : ByteArray} {x : Rec} (h : decR s = some x) : okR x = true ∧ encR x = s := by
  unfold decR at h
  cases h1 : decP (Wire.bytes s) 6 with
  | none => rw [h1] at h; cases h
  | some p =>
    obtain ⟨f, a⟩ := p
    rw [h1] at h; dsimp only at h
    unfold decT at h
    cases h2 : Wire.rdS s a with
    | none => rw [h2] at h; cases h
    | some q =>
      obtain ⟨y, e⟩ := q
      rw [h2] at h; dsimp only at h
      split at h
      · rename_i hc
        have hx := Option.some.inj h
        obtain ⟨k1, k2⟩ := dec_pre h1
        refine ⟨by rw [← hx]; exact hc.2, ?_⟩
        unfold Wire.rdS at h2
        cases h3 : Wire.rdI (Wire.bytes s) a with
        | none => rw [h3] at h2; cases h2
        | some r =>
          obtain ⟨n, nx⟩ := r
          rw [h3] at h2; dsimp only at h2
          split at h2
          · cases h2
          · rename_i hb
            have hq := Prod.mk.inj (Option.some.inj h2)
            obtain ⟨r1, r2, r3, r4⟩ := Wire.rdI_is h3
            rw [Wire.bytes_len] at r2
            have hysz : y.size = n.toNat := by rw [← hq.1, ByteArray.size_extract]; omega
            apply Wire.bytes_eq
            have hxx : x.x = y := by rw [← hx]
            have hfl : ∀ j, j < 6 → fld x j = f j := fun j hj => by
              rw [← hx]
              match j, hj with
              | 0, _ => rfl
              | 1, _ => rfl
              | 2, _ => rfl
              | 3, _ => show f 3 - 1 + 1 = f 3; omega
              | 4, _ => rfl
              | 5, _ => rfl
              | _ + 6, h => omega
            unfold encR Wire.encS
            rw [Wire.bytes_app, Wire.bytes_app, hxx, encP_cat, catI_congr hfl, ← k2, Wire.bytes_encI, hysz, show ((n.toNat : Nat) : Int) = n by omega, ← r3, ← hq.1, Wire.bytes_ext, ← List.append_assoc, take_ext (Nat.le_of_lt r1), take_ext (by omega), hq.2, hc.1, ← Wire.bytes_len, List.take_length]
      · cases h
theorem encR_size {x : Rec} (h : okR x = true) : 0 < (encR x).size ∧ (encR x).size ≤ 4100 := by
 have h1 := encP_size x 6
 have h2 := Wire.encI_size ((x.x.size : Nat) : Int)
 have h3 := Wire.vb_pos (Wire.zz ((x.x.size : Nat) : Int))
 have h4 := okR_is h
 have h5 : (Wire.encI ((x.x.size : Nat) : Int)).size = (Wire.vb (Wire.zz ((x.x.size : Nat) : Int))).length := by rw [← Wire.bytes_len]; rfl
 unfold encR Wire.encS
 rw [ByteArray.size_append, ByteArray.size_append]
 omega
end Rep
end Go.Proofs.YtfmoabgjaclkpaaGreatDoor

/- The walk of the law ReplicaCode. -/
namespace Go.Proofs.YtfmoabgjaclkpaaGreatDoor
open Go.RowKit

theorem own_appMk {α : Type} {R : Rep α} {P : Program} {t ty e : TypeId} {z : Value} {size bytes : Nat} (E : ElemT P t e z size bytes) {n₀ : Nat} {v : Value} {w : World} {l : List α} (h : OwnL R n₀ e size v w l) (hn : n₀ ≤ w.heap.size) {k : Nat} (hl : l.length = k)
    {O c m : Nat} {xs : List α} {ds : List (List Value)} (hm : xs.length = m) (h0 : 0 < m) (hds : ds.length = m) (hsz : ∀ d ∈ ds, d.length = size) (hcell : ∀ j u, ds.flatten[j]? = some u → w.cell? ⟨O, j, none⟩ = some u) (h1 : ∀ d ∈ ds, ∀ u ∈ d, u.oneCell' = true)
    (hR : ∀ (j : Nat) x d, xs[j]? = some x → ds[j]? = some d → ∃ F, R.rel w d x F ∧ ∀ b ∈ F, v.ownBlock ≠ some b) (hb : (k + m) * bytes ≤ 140737488355328) (hmax : k + m ≤ 9223372036854775807) :
    ∃ g cap w', (Builtin.append_ #[t, t] ty #[v, .slice (some ⟨O, 0, none⟩) m c]).run P w = .ok (.slice (some ⟨g, 0, none⟩) (k + m) cap) w' ∧ OwnL R n₀ e size (.slice (some ⟨g, 0, none⟩) (k + m) cap) w' (l ++ xs) ∧ Grew n₀ w w' ∧ w.grownBy w' v.ownBlock := by
  subst hl
  obtain ⟨cs, h2, h3, h4, h5⟩ := h
  obtain ⟨i, hi, hz0, hz1, hz2⟩ := info_parts E.info
  obtain ⟨v', w', hrun, hown, hg, hiff, hat⟩ := run_append_own_at (P := P) w n₀ t ty e i z size bytes E.under hi hz0 hz1 hz2 E.zs E.pos v l.length cs.flatten h4 ⟨O, 0, none⟩ m c ds.flatten (by rw [flatten_len hsz, hds]) (fun j u hj => by
    rw [Addr.add_mid, Nat.zero_add]; exact hcell j u hj) (fun u hu => by obtain ⟨d, hd, hu⟩ := List.mem_flatten.1 hu; exact h1 d hd u hu) (by unfold maxLen; exact hmax) hb hn
  have hnb : ∀ F : List Nat, (∀ b ∈ F, v.ownBlock ≠ some b) → (∀ b ∈ F, b < w.heap.size) → (∀ b ∈ F, v'.ownBlock ≠ some b) ∧ ∀ b ∈ F, ∀ o u, w.cell? ⟨b, o, none⟩ = some u → w'.cell? ⟨b, o, none⟩ = some u := by
    intro F hF hFl
    refine ⟨fun b hbF hv' => ?_, fun b hbF o u hu => hg.cell hu (fun e => hF b hbF e.symm)⟩
    rcases hat with e1 | e1
    · exact hF b hbF (by rw [← e1]; exact hv')
    · rw [e1] at hv'; cases hv'; have := hFl _ hbF; omega
  have hO : OwnL R n₀ e size v' w' (l ++ xs) := ⟨cs ++ ds, by simp [h2, hds, hm], by
      intro y hy
      rcases List.mem_append.1 hy with hy | hy
      · exact h3 y hy
      · exact hsz y hy, by rw [List.flatten_append, List.length_append, hm]; exact hown, by
      intro j y c hx hc
      rcases Nat.lt_or_ge j l.length with hj | hj
      · rw [List.getElem?_append_left hj] at hx
        rw [List.getElem?_append_left (by rw [h2]; exact hj)] at hc
        obtain ⟨F, q1, q2⟩ := h5 j y c hx hc
        obtain ⟨k1, k2⟩ := hnb F q2 (R.lt q1)
        exact ⟨F, R.keep q1 k2, k1⟩
      · rw [List.getElem?_append_right hj] at hx
        rw [List.getElem?_append_right (by rw [h2]; exact hj), h2] at hc
        obtain ⟨F, q1, q2⟩ := hR _ y c hx hc
        obtain ⟨k1, k2⟩ := hnb F q2 (R.lt q1)
        exact ⟨F, R.keep q1 k2, k1⟩⟩
  rcases hown.2 with ⟨q, _⟩ | ⟨g, cap, cur, q, _, _, q3, _⟩
  · have := (hiff.1 q).2; omega
  · subst q
    exact ⟨g, cap, w', hrun, hO, ⟨hg.size, fun U hU hUn => Ext.own' hU h4 hUn hg⟩, hg⟩
theorem sn_newSH {P : Program} {w : World} {ev : Operand → Value} {oi : Oper} {N : Value → World → Prop} {us : Array Value} {t : TypeId} {k c : Nat} (h1 : (execOp ev oi).run P w = .ok (.value (.slice (some ⟨w.heap.size, 0, none⟩) k c)) (w.alloc (.cells us t)))
    (h : ∀ O X, w.heap.size = O → X.heap.size = O + 1 → Ext w X → (∀ i u, us[i]? = some u → BoxAt X O i u) → X.heap[O]? = some (.cells us t (0, 0)) → N (.slice (some ⟨O, 0, none⟩) k c) X) : StepN P ev oi w N := by
  refine sn_eff h1 (h _ _ rfl (by simp) (Ext.alloc (Ext.refl _) _) (fun i u hu => ⟨?_, ?_⟩) (heap_alloc_new w _))
  · rw [cell_of_row _ _ i _ t (0, 0) (heap_alloc_new w _)]; exact hu
  · simp [go_sem]
theorem own_one {α : Type} {R : Rep α} {n₀ O : Nat} {e : TypeId} {w : World} {d : List Value} {x : α} {F : List Nat} (h : w.heap[O]? = some (.cells d.toArray e (0, 0))) (hb : n₀ ≤ O) (hR : R.rel w d x F) (hF : ∀ b ∈ F, b ≠ O) : OwnL R n₀ e d.length (.slice (some ⟨O, 0, none⟩) 1 1) w [x] :=
  ⟨[d], rfl, by simp, ⟨by simp, .inr ⟨O, 1, d.toArray, rfl, hb, h, Nat.le_refl _, by unfold maxLen; omega, by simp, by simp⟩⟩, fun j y c hy hc => by
    cases j with
    | zero =>
      simp at hy hc; subst hy hc
      exact ⟨F, hR, fun b hb he => hF b hb (Option.some.inj he).symm⟩
    | succ j => simp at hy⟩
/-! Texts in a list of one's own; bytes in a block of one's own. -/
def strR : Rep ByteArray where
  rel _ c x F := c = [.string x] ∧ F = []
  keep := fun h _ => h
  lt := by rintro w c x F ⟨_, rfl⟩ b hb; cases hb
theorem strT : ElemT Tryz.prog 62 9 (.string ⟨#[]⟩) 1 16 := ⟨Tryz.underlying62, by kernel_rfl, rfl, by decide⟩
theorem cells3 {w : World} {O : Nat} {x y z : Value} (h : w.cell? ⟨O, 0, none⟩ = some x) (h1 : w.cell? ⟨O, 1, none⟩ = some y) (h2 : w.cell? ⟨O, 2, none⟩ = some z) : ∀ j v, [x, y, z][j]? = some v → w.cell? ⟨O, j, none⟩ = some v
  | 0, v, hv => by simp at hv; subst hv; exact h
  | 1, v, hv => by simp at hv; subst hv; exact h1
  | 2, v, hv => by simp at hv; subst hv; exact h2
  | _ + 3, v, hv => by simp at hv
theorem app_str3 {n₀ k c O : Nat} {v : Value} {w : World} {l : List ByteArray} {x y z : ByteArray} (h : OwnL strR n₀ 9 1 v w l) (hn : n₀ ≤ w.heap.size) (hl : l.length = k) (h0 : w.cell? ⟨O, 0, none⟩ = some (.string x)) (h1 : w.cell? ⟨O, 1, none⟩ = some (.string y)) (h2 : w.cell? ⟨O, 2, none⟩ = some (.string z)) (hk : k ≤ 1000) :
    ∃ g cap w', (Builtin.append_ #[62, 62] 62 #[v, .slice (some ⟨O, 0, none⟩) 3 c]).run Tryz.prog w = .ok (.slice (some ⟨g, 0, none⟩) (k + 3) cap) w' ∧ OwnL strR n₀ 9 1 (.slice (some ⟨g, 0, none⟩) (k + 3) cap) w' (l ++ [x, y, z]) ∧ Grew n₀ w w' ∧ w.grownBy w' v.ownBlock :=
  own_appMk (P := Tryz.prog) (ty := 62) strT h hn hl (O := O) (c := c) (m := 3) (xs := [x, y, z]) (ds := [[.string x], [.string y], [.string z]]) rfl (by decide) rfl (by simp) (fun j u hj => cells3 h0 h1 h2 j u (by simpa using hj)) (by simp [Value.oneCell']) (fun j a d ha hd => by
    match j, ha, hd with
    | 0, ha, hd => simp at ha hd; subst ha hd; exact ⟨[], ⟨rfl, rfl⟩, fun b hb => by cases hb⟩
    | 1, ha, hd => simp at ha hd; subst ha hd; exact ⟨[], ⟨rfl, rfl⟩, fun b hb => by cases hb⟩
    | 2, ha, hd => simp at ha hd; subst ha hd; exact ⟨[], ⟨rfl, rfl⟩, fun b hb => by cases hb⟩
    | _ + 3, ha, _ => simp at ha) (by omega) (by omega)
def StrsAt (w : World) (g n : Nat) : Prop := ∀ i, i < n → ∃ s : ByteArray, w.cell? ⟨g, i, none⟩ = some (.string s) ∧ s.size ≤ 5000
theorem own_strs {n₀ g n cap : Nat} {w : World} {l : List ByteArray} (h : OwnL strR n₀ 9 1 (.slice (some ⟨g, 0, none⟩) n cap) w l) (hl : l.length = n) (ha : ∀ s ∈ l, s.size ≤ 5000) : StrsAt w g n := fun i hi => by
  subst hl
  obtain ⟨cs, h1, h2, h3, h4⟩ := h
  have hc := List.getElem?_eq_getElem (l := cs) (i := i) (by omega)
  obtain ⟨F, ⟨e1, _⟩, _⟩ := h4 i _ _ (List.getElem?_eq_getElem (l := l) (i := i) (by omega)) hc
  have f := flatten_get h2 i hc 0 (by omega)
  rw [e1, Nat.mul_one, Nat.add_zero] at f
  rcases h3.2 with ⟨q, _⟩ | ⟨g', cap', cur, q, _⟩
  · cases q
  · injection q with q1 q2 q3
    injection q1 with q1
    injection q1 with q1
    subst q1
    have hz := h3.cellAt i (by omega)
    exact ⟨l[i]'(by omega), by rw [hz]; exact f, ha _ (List.getElem_mem _)⟩
def BytW (w : World) (g n : Nat) : Prop := ∀ i, i < n → ∃ b : UInt8, BoxAt w g i (.int .u8 ((b.toNat : Nat) : Int))
theorem BytW.ext {w w' : World} {g n : Nat} (h : BytW w g n) (e : Ext w w') : BytW w' g n := fun i hi => by obtain ⟨b, hb⟩ := h i hi; exact ⟨b, BoxAt.ext e hb⟩
theorem BytW.set {w X : World} {g n p : Nat} {b : UInt8} (h : BytW w g n) (hv : BoxAt X g p (.int .u8 ((b.toNat : Nat) : Int))) (hk : ∀ i x, i ≠ p → BoxAt w g i x → BoxAt X g i x) : BytW X g n := fun i hi => by
  by_cases e : i = p
  · subst e; exact ⟨b, hv⟩
  · obtain ⟨c, hc⟩ := h i hi; exact ⟨c, hk i _ e hc⟩
theorem BytW.str {w : World} {g n : Nat} (h : BytW w g n) (c : Nat) : ∃ s : ByteArray, s.size = n ∧ (convert 63 9 (.slice (some ⟨g, 0, none⟩) n c)).run Tryz.prog w = .ok (.string s) w := by
  obtain ⟨q, hq⟩ := Go.Deep.choose_lt (p := fun i (b : UInt8) => BoxAt w g i (.int .u8 ((b.toNat : Nat) : Int))) h
  refine ⟨⟨((List.range n).map q).toArray⟩, by simp [ByteArray.size], ?_⟩
  have := run_convert_bytes_back (P := Tryz.prog) w 63 9 5 ⟨g, 0, none⟩ c ((List.range n).map q) Tryz.underlying63 Tryz.underlying5 Tryz.underlying9 (fun j hj => by
    have hj' : j < n := by simpa using hj
    rw [Addr.add_mid, Nat.zero_add, (hq j hj').1]
    simp)
  rw [List.length_map, List.length_range] at this
  exact this
theorem conv_bytes (w : World) (s : ByteArray) : ∃ g cap w', (convert 9 63 (.string s)).run Tryz.prog w = .ok (.slice (some ⟨g, 0, none⟩) s.size cap) w' ∧ w.heap.size ≤ g ∧ g < w'.heap.size ∧ BytW w' g s.size ∧ Ext w w' := by
  refine ⟨_, _, _, run_bytes_of_string w 9 63 5 s Tryz.underlying9 Tryz.underlying63 Tryz.underlying5, Nat.le_refl _, ?_, fun i hi => ?_, (Ext.drew (Ext.refl w)).trans (Ext.alloc (Ext.refl _) _)⟩
  · show w.heap.size < (w.heap.push _).size
    rw [Array.size_push]; exact Nat.lt_succ_self _
  · have hi' : i < s.data.size := hi
    have h1 := World.cell?_alloc_mark w.drew (bytesRow s (grownCap w s.size 0 5)) 5 ((bytesRow s (grownCap w s.size 0 5)).size, (bytesRow s (grownCap w s.size 0 5)).size + 1) i
    have h2 := World.frozen?_alloc_mark w.drew (bytesRow s (grownCap w s.size 0 5)) 5 (bytesRow s (grownCap w s.size 0 5)).size ((bytesRow s (grownCap w s.size 0 5)).size + 1) i
    rw [bytesRow_at s _ i hi'] at h1
    refine ⟨s.data[i], h1, h2.trans ?_⟩
    have : s.data.size ≤ (bytesRow s (grownCap w s.size 0 5)).size := by unfold bytesRow; simp
    rw [decide_eq_false (by omega), Bool.false_and]
set_option maxRecDepth 1000000 in
set_option maxHeartbeats 4000000 in
theorem ReplicaCode_walk (w : World) (v0 : Value) (o0 : Quads w v0) (v1 : Value) (o1 : Txt v1) (i2 : Int) (h2 : IsI i2) (v3 : Value) (o3 : BytV v3) (hRl : RootAt w) : Calls Tryz.prog 9 #[v0, v1, .int .i64 i2, v3] w fun e w' => e = .returned (.bool true) ∧ Ext w w' := by
  obtain ⟨ax, nx, cx, q, rfl, hq1, hq2, _, hQ⟩ := o0
  obtain ⟨s1, rfl, hs1⟩ := o1
  obtain ⟨b3, rfl⟩ := o3
  refine calls_cw 139 [(3, .int .u8 (((UInt8.toNat b3 : Nat) : Int) : Int)), (2, .int .i64 (i2 : Int)), (1, .string s1), (0, .slice ax nx cx)] Tryz.func9 rfl Tryz.ntmps9 (by kernel_rfl) (by kernel_rfl) (fun L => ?_)
  have hE : Ext w w := Ext.refl w
  refine cw_seq ?_
  refine cw_plain ?_
  refine pl_take (.bool false) rfl (by kernel_rfl) (by kernel_rfl) (by kernel_rfl) (by kernel_rfl) ?_
  refine pl_nil ?_
  refine qw_then ?_
  refine cw_seq ?_
  refine cw_plain ?_
  refine pl_step rfl (by kernel_rfl) (by kernel_rfl) (by kernel_rfl) (sn_call (f := 10) (args := #[]) (by kernel_rfl) ((sane_c _ (hRl.ext (Ext.refl _))).mono ?_))
  rintro e w1 ⟨rfl, hb⟩
  replace hE := hE.trans hb
  have hs2 := hb.size
  clear hb
  refine ⟨_, rfl, ?_⟩
  refine pl_take (.bool true) rfl (by kernel_rfl) (by kernel_rfl) (by kernel_rfl) (by kernel_rfl) ?_
  refine pl_nil ?_
  refine qw_then ?_
  refine cw_seq ?_
  refine cw_seq ?_
  refine cw_plain ?_
  refine pl_take (.bool true) rfl (by kernel_rfl) (by kernel_rfl) (by kernel_rfl) (by kernel_rfl) ?_
  refine pl_take (.bool false) rfl (by kernel_rfl) (by kernel_rfl) (by kernel_rfl) (by kernel_rfl) ?_
  refine pl_nil ?_
  refine qw_then ?_
  refine cw_f (by kernel_rfl) ?_
  refine cw_skip ?_
  refine qw_then ?_
  refine cw_seq ?_
  refine cw_plain ?_
  refine pl_take (.slice ax nx cx) rfl (by kernel_rfl) (by kernel_rfl) (by kernel_rfl) (by kernel_rfl) ?_
  refine pl_step rfl (by kernel_rfl) (by kernel_rfl) (by kernel_rfl) (sn_call (f := 11) (args := #[.slice ax nx cx]) (by kernel_rfl) ((Made_c cx _ hQ hE (by omega)).mono ?_))
  rintro e w3 ⟨B, LL, rfl, hB, hT, hTri, hb⟩
  replace hE := hE.trans hb
  have hs4 := hb.size
  clear hb
  have hX5 : Ext w3 w3 := Ext.refl _
  obtain ⟨a0, n0, c0, hx00, hx01, H0, hc0, hfr0⟩ := hT 0 (by omega)
  replace hx00 : BoxAt w3 B 0 (.int .i64 0) := hx00
  replace hx01 : BoxAt w3 B 1 (.slice a0 n0 c0) := hx01
  refine ⟨_, rfl, ?_⟩
  refine pl_take (.pointer (some ⟨B, 0, none⟩)) rfl (by kernel_rfl) (by kernel_rfl) (by kernel_rfl) (ex_index (p := .slice (some ⟨B, 0, none⟩) 3 3) (i := .int .i64 ((0 : Nat) : Int)) rfl (by kernel_rfl) (by kernel_rfl) (ix28z (k := 0) (by omega))) ?_
  refine pl_take (.pointer (some ⟨B, 1, none⟩)) rfl (by kernel_rfl) (by kernel_rfl) (by kernel_rfl) (by kernel_rfl) ?_
  refine pl_take (.slice a0 n0 c0) rfl (by kernel_rfl) (by kernel_rfl) (by kernel_rfl) (ex_load rfl (by kernel_rfl) (ld23 (hx01.1))) ?_
  refine pl_take (.slice a0 n0 c0) rfl (by kernel_rfl) (by kernel_rfl) (by kernel_rfl) (by kernel_rfl) ?_
  refine pl_nil ?_
  refine qw_then ?_
  refine cw_clean [1, 2, 3, 9, 10] (ws' := [(1, .string s1), (2, .int .i64 (i2 : Int)), (3, .int .u8 (((UInt8.toNat b3 : Nat) : Int) : Int)), (9, .bool true), (10, .slice a0 n0 c0)]) (by kernel_rfl) (fun L => ?_)
  refine cw_seq ?_
  have hM9 := H0
  obtain ⟨b9, o9, ha9, hbr9, hx9⟩ := hM9.parts; have hln9 := hM9.len; have hmx9 := hM9.max
  have hvd := hTri.ex
  have hvd0 : Rep.Vd (LL 0) := by obtain ⟨U, _, _, _, hIn⟩ := hvd; exact (hIn 0 (by decide)).vd
  have hl24 := hTri.len (j := 0) (by decide)
  refine cw_plain ?_
  refine pl_take (.string s1) rfl (by kernel_rfl) (by kernel_rfl) (by kernel_rfl) (by kernel_rfl) ?_
  refine pl_take (.string s1) rfl (by kernel_rfl) (by kernel_rfl) (by kernel_rfl) (by kernel_rfl) ?_
  refine pl_take (.int .i64 (((ByteArray.size s1 : Nat) : Int) : Int)) rfl (by kernel_rfl) (by kernel_rfl) (by kernel_rfl) (by kernel_rfl) ?_
  refine pl_take (.int .i64 (((min (ByteArray.size s1) 60 : Nat) : Int) : Int)) rfl (by kernel_rfl) (by kernel_rfl) (by kernel_rfl) (ev_int (show _ = Result.ok (Next.value (Value.int .i64 (if (60 : Int) < (((ByteArray.size s1 : Nat) : Int) : Int) then (60 : Int) else (((ByteArray.size s1 : Nat) : Int) : Int)))) _ from by kernel_rfl) (by split <;> omega)) ?_
  refine pl_take (.string (ByteArray.extract s1 0 (min (ByteArray.size s1) 60))) rfl (by kernel_rfl) (by kernel_rfl) (by kernel_rfl) (ex_slice (p := .string s1) rfl (by kernel_rfl) (by kernel_rfl) (by kernel_rfl) (by kernel_rfl) (slS_01 (j := min (ByteArray.size s1) 60) (by omega))) ?_
  refine pl_step rfl (by kernel_rfl) (by kernel_rfl) (by kernel_rfl) (sn_newSH (us := #[.string (ByteArray.extract s1 0 (min (ByteArray.size s1) 60))]) (t := 9) (k := 1) (c := 1) (by kernel_rfl) ?_)
  intro O6 X7 hO hOs hb hbx hpO6
  have hzO6 := hO; have hyO6 := hOs; clear hO hOs
  have bO6_0 : BoxAt X7 O6 0 (.string (ByteArray.extract s1 0 (min (ByteArray.size s1) 60))) := hbx 0 _ rfl
  clear hbx
  replace hE := hE.trans hb
  replace hX5 := hX5.trans hb
  have hs8 := hb.size
  clear hb
  have lt9 := bO6_0.lt
  have ow0 : OwnL strR w3.heap.size 9 1 (.slice (some ⟨O6, 0, none⟩) 1 1) X7 [ByteArray.extract s1 0 (min (ByteArray.size s1) 60)] := own_one (R := strR) (x := ByteArray.extract s1 0 (min (ByteArray.size s1) 60)) (d := [.string (ByteArray.extract s1 0 (min (ByteArray.size s1) 60))]) (F := []) hpO6 (Nat.le_of_eq hzO6) ⟨rfl, rfl⟩ (fun b hb => by cases hb)
  have hs0 : ByteArray.size (ByteArray.extract s1 0 (min (ByteArray.size s1) 60)) ≤ 5000 := by rw [ByteArray.size_extract]; omega
  refine pl_take (.slice (some ⟨O6, 0, none⟩) 1 1) rfl (by kernel_rfl) (by kernel_rfl) (by kernel_rfl) (by kernel_rfl) ?_
  refine pl_nil ?_
  refine qw_then ?_
  refine cw_seq ?_
  refine cw_seq ?_
  refine cw_plain ?_
  refine pl_take (.int .i64 0) rfl (by kernel_rfl) (by kernel_rfl) (by kernel_rfl) (by kernel_rfl) ?_
  refine pl_nil ?_
  refine qw_then ?_
  refine cw_block ?_
  refine cw_loop [2, 3, 9, 10, 11, 12] (fun ws' wr m => ∃ i : Nat, ∃ g9 : Nat, ∃ n9 : Nat, ∃ c9 : Nat, ∃ l9 : List ByteArray, ws' = [(2, .int .i64 (i2 : Int)), (3, .int .u8 (((UInt8.toNat b3 : Nat) : Int) : Int)), (9, .bool true), (10, .slice a0 n0 c0), (11, .slice (some ⟨g9, 0, none⟩) n9 c9), (12, .int .i64 (((i : Nat) : Int) : Int))] ∧ m = n0 - i ∧ X7.heap.size ≤ wr.heap.size ∧ Ext w wr ∧ Ext w3 wr ∧ OwnL strR w3.heap.size 9 1 (.slice (some ⟨g9, 0, none⟩) n9 c9) wr l9 ∧ i ≤ n0 ∧ n9 ≤ 1 + 3 * i ∧ l9.length = n9 ∧ (∀ s ∈ l9, ByteArray.size s ≤ 5000)) (ws0 := [(2, .int .i64 (i2 : Int)), (3, .int .u8 (((UInt8.toNat b3 : Nat) : Int) : Int)), (9, .bool true), (10, .slice a0 n0 c0), (11, .slice (some ⟨O6, 0, none⟩) 1 1), (12, .int .i64 0)]) (by kernel_rfl) _ ⟨0, O6, 1, 1, [ByteArray.extract s1 0 (min (ByteArray.size s1) 60)], rfl, rfl, Nat.le_refl _, hE, hX5, ow0, Nat.zero_le _, Nat.le_refl _, rfl, (fun s hs => by rw [List.mem_singleton.1 hs]; exact hs0)⟩ ?_
  clear ow0 hE hX5
  rintro m12 L ws w11 ⟨i, g9, n9, c9, l9, rfl, rfl, hs10, hE, hX5, ow9, hi, hn9, hl9, hall⟩
  have hbk9 := ow9.lt
  by_cases hlt : i < n0
  ·
    have hb9l := hbr9 (by omega)
    obtain rfl := ha9 (by omega)
    have hok := hvd0.ok _ (recN_mem (l := LL 0) (i := i) (by omega))
    have hez := Rep.encR_size hok
    have hp9 := Rep.pk_lt (c := i2) (n := ByteArray.size (Rep.encR (recN (LL 0) i))) hez.1
    refine cw_seq ?_
    refine cw_seq ?_
    refine cw_plain ?_
    refine pl_take (.int .i64 (((i : Nat) : Int) : Int)) rfl (by kernel_rfl) (by kernel_rfl) (by kernel_rfl) (by kernel_rfl) ?_
    refine pl_take (.slice (some ⟨b9, o9, none⟩) n0 c0) rfl (by kernel_rfl) (by kernel_rfl) (by kernel_rfl) (by kernel_rfl) ?_
    refine pl_take (.int .i64 (((n0 : Nat) : Int) : Int)) rfl (by kernel_rfl) (by kernel_rfl) (by kernel_rfl) (by kernel_rfl) ?_
    refine pl_take (.bool true) rfl (by kernel_rfl) (by kernel_rfl) (by kernel_rfl) (ev_dec (show _ = Result.ok (Next.value (Value.bool (decide ((((i : Nat) : Int) : Int) < (((n0 : Nat) : Int) : Int))))) _ from by kernel_rfl) (by omega)) ?_
    refine pl_nil ?_
    refine qw_then ?_
    refine cw_t (by kernel_rfl) ?_
    refine cw_skip ?_
    refine qw_then ?_
    refine cw_seq ?_
    refine cw_block ?_
    refine cw_seq ?_
    refine cw_plain ?_
    refine pl_take (.slice (some ⟨b9, o9, none⟩) n0 c0) rfl (by kernel_rfl) (by kernel_rfl) (by kernel_rfl) (by kernel_rfl) ?_
    refine pl_take (.int .i64 (((i : Nat) : Int) : Int)) rfl (by kernel_rfl) (by kernel_rfl) (by kernel_rfl) (by kernel_rfl) ?_
    refine pl_take (.pointer (some ⟨b9, o9 + i * 7, none⟩)) rfl (by kernel_rfl) (by kernel_rfl) (by kernel_rfl) (ex_index (p := .slice (some ⟨b9, o9, none⟩) n0 c0) (i := .int .i64 ((i : Nat) : Int)) rfl (by kernel_rfl) (by kernel_rfl) (ix23 (k := i) (by omega))) ?_
    refine pl_take (.agg #[.int .i64 ((recN ((LL 0)) i).c : Int), .int .i64 ((recN ((LL 0)) i).n : Int), .int .i64 ((recN ((LL 0)) i).t : Int), .int .i64 ((recN ((LL 0)) i).o : Int), .int .i64 ((recN ((LL 0)) i).w : Int), .int .i64 ((recN ((LL 0)) i).k : Int), .string ((recN ((LL 0)) i).x)]) rfl (by kernel_rfl) (by kernel_rfl) (by kernel_rfl) (ex_load rfl (by kernel_rfl) (ld49 ((hx9.ext hX5).c0 (i := i) (by omega)) ((hx9.ext hX5).c1 (i := i) (by omega)) ((hx9.ext hX5).c2 (i := i) (by omega)) ((hx9.ext hX5).c3 (i := i) (by omega)) ((hx9.ext hX5).c4 (i := i) (by omega)) ((hx9.ext hX5).c5 (i := i) (by omega)) ((hx9.ext hX5).c6 (i := i) (by omega)))) ?_
    refine pl_step rfl (by kernel_rfl) (by kernel_rfl) (by kernel_rfl) (sn_call (f := 31) (args := #[.agg #[.int .i64 ((recN ((LL 0)) i).c : Int), .int .i64 ((recN ((LL 0)) i).n : Int), .int .i64 ((recN ((LL 0)) i).t : Int), .int .i64 ((recN ((LL 0)) i).o : Int), .int .i64 ((recN ((LL 0)) i).w : Int), .int .i64 ((recN ((LL 0)) i).k : Int), .string ((recN ((LL 0)) i).x)]]) (by kernel_rfl) ((Encode_y (x := (recN (LL 0) i)) _ (hRl.ext hE) hok).mono ?_))
    rintro e w13 ⟨rfl, hb⟩
    replace hE := hE.trans hb
    replace hX5 := hX5.trans hb
    replace ow9 := ow9.ext hb
    have hs14 := hb.size
    clear hb
    refine ⟨_, rfl, ?_⟩
    refine pl_take (.tuple #[.string (Rep.encR (recN (LL 0) i)), .int .i64 0]) rfl (by kernel_rfl) (by kernel_rfl) (by kernel_rfl) (by kernel_rfl) ?_
    refine pl_take (.string (Rep.encR (recN (LL 0) i))) rfl (by kernel_rfl) (by kernel_rfl) (by kernel_rfl) (by kernel_rfl) ?_
    refine pl_take (.int .i64 0) rfl (by kernel_rfl) (by kernel_rfl) (by kernel_rfl) (by kernel_rfl) ?_
    refine pl_take (.string (Rep.encR (recN (LL 0) i))) rfl (by kernel_rfl) (by kernel_rfl) (by kernel_rfl) (by kernel_rfl) ?_
    refine pl_take (.int .i64 0) rfl (by kernel_rfl) (by kernel_rfl) (by kernel_rfl) (by kernel_rfl) ?_
    refine pl_nil ?_
    refine qw_then ?_
    refine cw_clean [2, 3, 9, 10, 11, 12, 13, 14] (ws' := [(2, .int .i64 (i2 : Int)), (3, .int .u8 (((UInt8.toNat b3 : Nat) : Int) : Int)), (9, .bool true), (10, .slice (some ⟨b9, o9, none⟩) n0 c0), (11, .slice (some ⟨g9, 0, none⟩) n9 c9), (12, .int .i64 (((i : Nat) : Int) : Int)), (13, .string (Rep.encR (recN (LL 0) i))), (14, .int .i64 0)]) (by kernel_rfl) (fun L => ?_)
    refine cw_seq ?_
    refine cw_plain ?_
    refine pl_take (.string (Rep.encR (recN (LL 0) i))) rfl (by kernel_rfl) (by kernel_rfl) (by kernel_rfl) (by kernel_rfl) ?_
    refine pl_step rfl (by kernel_rfl) (by kernel_rfl) (by kernel_rfl) (sn_call (f := 35) (args := #[.string (Rep.encR (recN (LL 0) i))]) (by kernel_rfl) ((Decode_y (x := (recN (LL 0) i)) _ (by omega) (hRl.ext hE) (Rep.enc_dec hok)).mono ?_))
    rintro e w15 ⟨rfl, hb⟩
    replace hE := hE.trans hb
    replace hX5 := hX5.trans hb
    replace ow9 := ow9.ext hb
    have hs16 := hb.size
    clear hb
    refine ⟨_, rfl, ?_⟩
    refine pl_take (.tuple #[.agg #[.int .i64 ((recN (LL 0) i).c : Int), .int .i64 ((recN (LL 0) i).n : Int), .int .i64 ((recN (LL 0) i).t : Int), .int .i64 ((recN (LL 0) i).o : Int), .int .i64 ((recN (LL 0) i).w : Int), .int .i64 ((recN (LL 0) i).k : Int), .string ((recN (LL 0) i).x)], .int .i64 0]) rfl (by kernel_rfl) (by kernel_rfl) (by kernel_rfl) (by kernel_rfl) ?_
    refine pl_take (.agg #[.int .i64 ((recN (LL 0) i).c : Int), .int .i64 ((recN (LL 0) i).n : Int), .int .i64 ((recN (LL 0) i).t : Int), .int .i64 ((recN (LL 0) i).o : Int), .int .i64 ((recN (LL 0) i).w : Int), .int .i64 ((recN (LL 0) i).k : Int), .string ((recN (LL 0) i).x)]) rfl (by kernel_rfl) (by kernel_rfl) (by kernel_rfl) (by kernel_rfl) ?_
    refine pl_take (.int .i64 0) rfl (by kernel_rfl) (by kernel_rfl) (by kernel_rfl) (by kernel_rfl) ?_
    refine pl_step rfl (by kernel_rfl) (by kernel_rfl) (by kernel_rfl) (sn_new (us := #[.int .i64 0, .int .i64 0, .int .i64 0, .int .i64 0, .int .i64 0, .int .i64 0, .string (⟨#[]⟩)]) (t := 49) (by kernel_rfl) ?_)
    intro O17 X18 hO hOs hb hbx
    have hzO17 := hO; have hyO17 := hOs; clear hO hOs
    have bO17_0 : BoxAt X18 O17 0 (.int .i64 0) := hbx 0 _ rfl
    have bO17_1 : BoxAt X18 O17 1 (.int .i64 0) := hbx 1 _ rfl
    have bO17_2 : BoxAt X18 O17 2 (.int .i64 0) := hbx 2 _ rfl
    have bO17_3 : BoxAt X18 O17 3 (.int .i64 0) := hbx 3 _ rfl
    have bO17_4 : BoxAt X18 O17 4 (.int .i64 0) := hbx 4 _ rfl
    have bO17_5 : BoxAt X18 O17 5 (.int .i64 0) := hbx 5 _ rfl
    have bO17_6 : BoxAt X18 O17 6 (.string (⟨#[]⟩)) := hbx 6 _ rfl
    clear hbx
    replace hE := hE.trans hb
    replace hX5 := hX5.trans hb
    replace ow9 := ow9.ext hb
    have hs19 := hb.size
    clear hb
    have lt20 := bO17_0.lt
    refine pl_put rfl (by kernel_rfl) (by kernel_rfl) (sn_setK7 (O := O17) (j := 0) (v0 := .int .i64 ((recN (LL 0) i).c : Int)) (v1 := .int .i64 ((recN (LL 0) i).n : Int)) (v2 := .int .i64 ((recN (LL 0) i).t : Int)) (v3 := .int .i64 ((recN (LL 0) i).o : Int)) (v4 := .int .i64 ((recN (LL 0) i).w : Int)) (v5 := .int .i64 ((recN (LL 0) i).k : Int)) (v6 := .string ((recN (LL 0) i).x)) (ex_store (p := .pointer (some ⟨O17, 0, none⟩)) (v := .agg #[.int .i64 ((recN (LL 0) i).c : Int), .int .i64 ((recN (LL 0) i).n : Int), .int .i64 ((recN (LL 0) i).t : Int), .int .i64 ((recN (LL 0) i).o : Int), .int .i64 ((recN (LL 0) i).w : Int), .int .i64 ((recN (LL 0) i).k : Int), .string ((recN (LL 0) i).x)]) rfl (by kernel_rfl) (by kernel_rfl) (st49 bO17_0.1 bO17_0.2 bO17_1.1 bO17_1.2 bO17_2.1 bO17_2.2 bO17_3.1 bO17_3.2 bO17_4.1 bO17_4.2 bO17_5.1 bO17_5.2 bO17_6.1 bO17_6.2)) bO17_0 bO17_1 bO17_2 bO17_3 bO17_4 bO17_5 bO17_6 ?_)
    intro X21 ho hv0 hv1 hv2 hv3 hv4 hv5 hv6 hk
    replace hE := ho.ext hE (Nat.le_trans (Nat.le_trans hs2 (Nat.le_trans hs4 (Nat.le_trans hs8 (Nat.le_trans hs10 (Nat.le_trans hs14 hs16))))) (Nat.le_of_eq hzO17))
    replace hX5 := ho.ext hX5 (Nat.le_trans (Nat.le_trans hs8 (Nat.le_trans hs10 (Nat.le_trans hs14 hs16))) (Nat.le_of_eq hzO17))
    replace ow9 := ow9.turn ho (own_not2 hbk9 (Nat.le_trans (Nat.le_trans hs14 hs16) (Nat.le_of_eq hzO17))) (fun _ _ _ h => by rw [h.2]; exact fun b hb => by cases hb)
    have hs22 : X18.heap.size ≤ X21.heap.size := Nat.le_of_eq ho.size.symm
    clear ho hk bO17_0 bO17_1 bO17_2 bO17_3 bO17_4 bO17_5 bO17_6
    have bO17_0 := hv0; clear hv0
    have bO17_1 := hv1; clear hv1
    have bO17_2 := hv2; clear hv2
    have bO17_3 := hv3; clear hv3
    have bO17_4 := hv4; clear hv4
    have bO17_5 := hv5; clear hv5
    have bO17_6 := hv6; clear hv6
    refine pl_take (.int .i64 0) rfl (by kernel_rfl) (by kernel_rfl) (by kernel_rfl) (by kernel_rfl) ?_
    refine pl_nil ?_
    refine qw_then ?_
    refine cw_clean [2, 3, 9, 10, 11, 12, 13, 14, 15, 16] (ws' := [(2, .int .i64 (i2 : Int)), (3, .int .u8 (((UInt8.toNat b3 : Nat) : Int) : Int)), (9, .bool true), (10, .slice (some ⟨b9, o9, none⟩) n0 c0), (11, .slice (some ⟨g9, 0, none⟩) n9 c9), (12, .int .i64 (((i : Nat) : Int) : Int)), (13, .string (Rep.encR (recN (LL 0) i))), (14, .int .i64 0), (15, .pointer (some ⟨O17, 0, none⟩)), (16, .int .i64 0)]) (by kernel_rfl) (fun L => ?_)
    refine cw_seq ?_
    refine cw_seq ?_
    refine cw_draw [(some 56, [14], []), (some 57, [56], [0]), (some 58, [57], [1]), (some 59, [16, 58], [2]), (some 60, [59, 58], [3, 2]), (some 61, [58, 60], [2, 4]), (some 62, [61], [5, 2]), (some 63, [15, 62], [6]), (some 64, [10, 62], [6]), (some 65, [12, 62], [6]), (some 66, [64, 65, 62], [8, 9, 6]), (some 67, [66, 62], [10, 6]), (some 68, [63, 67, 62], [7, 11, 6]), (some 69, [62, 68], [6, 12]), (some 70, [69], [13, 6]), (some 71, [13, 70], [14]), (some 72, [71, 70], [15, 14]), (some 73, [72, 70], [16, 14]), (some 74, [70, 73], [14, 17])] (fun w' => w'.cell? ⟨O17, 0, none⟩ = some (.int .i64 ((recN (LL 0) i).c : Int)) ∧ w'.cell? ⟨O17, 1, none⟩ = some (.int .i64 ((recN (LL 0) i).n : Int)) ∧ w'.cell? ⟨O17, 2, none⟩ = some (.int .i64 ((recN (LL 0) i).t : Int)) ∧ w'.cell? ⟨O17, 3, none⟩ = some (.int .i64 ((recN (LL 0) i).o : Int)) ∧ w'.cell? ⟨O17, 4, none⟩ = some (.int .i64 ((recN (LL 0) i).w : Int)) ∧ w'.cell? ⟨O17, 5, none⟩ = some (.int .i64 ((recN (LL 0) i).k : Int)) ∧ w'.cell? ⟨O17, 6, none⟩ = some (.string ((recN (LL 0) i).x)) ∧ w'.cell? ⟨b9, o9 + i * 7, none⟩ = some (.int .i64 ((recN ((LL 0)) i).c : Int)) ∧ w'.cell? ⟨b9, o9 + i * 7 + 1, none⟩ = some (.int .i64 ((recN ((LL 0)) i).n : Int)) ∧ w'.cell? ⟨b9, o9 + i * 7 + 2, none⟩ = some (.int .i64 ((recN ((LL 0)) i).t : Int)) ∧ w'.cell? ⟨b9, o9 + i * 7 + 3, none⟩ = some (.int .i64 ((recN ((LL 0)) i).o : Int)) ∧ w'.cell? ⟨b9, o9 + i * 7 + 4, none⟩ = some (.int .i64 ((recN ((LL 0)) i).w : Int)) ∧ w'.cell? ⟨b9, o9 + i * 7 + 5, none⟩ = some (.int .i64 ((recN ((LL 0)) i).k : Int)) ∧ w'.cell? ⟨b9, o9 + i * 7 + 6, none⟩ = some (.string ((recN ((LL 0)) i).x))) (by kernel_rfl) (by kernel_rfl) (by kernel_rfl) (by kernel_rfl) ((calm_then (calm_then (calm_block (calm_then (calm_then (calm_block (calm_then calm_body)))))))) (⟨bO17_0.1, bO17_1.1, bO17_2.1, bO17_3.1, bO17_4.1, bO17_5.1, bO17_6.1, (hx9.ext hX5).c0 (i := i) (by omega), (hx9.ext hX5).c1 (i := i) (by omega), (hx9.ext hX5).c2 (i := i) (by omega), (hx9.ext hX5).c3 (i := i) (by omega), (hx9.ext hX5).c4 (i := i) (by omega), (hx9.ext hX5).c5 (i := i) (by omega), (hx9.ext hX5).c6 (i := i) (by omega)⟩) (fun ops Q X23 hb hL hR hK => ?_)
    replace hE := hE.trans hb
    replace hX5 := hX5.trans hb
    replace ow9 := ow9.ext hb
    replace bO17_0 := BoxAt.ext hb bO17_0
    replace bO17_1 := BoxAt.ext hb bO17_1
    replace bO17_2 := BoxAt.ext hb bO17_2
    replace bO17_3 := BoxAt.ext hb bO17_3
    replace bO17_4 := BoxAt.ext hb bO17_4
    replace bO17_5 := BoxAt.ext hb bO17_5
    replace bO17_6 := BoxAt.ext hb bO17_6
    have hs24 := hb.size
    clear hb
    refine wd_take 0 (.int .i64 0) hR rfl (by kernel_rfl) rfl (by kernel_rfl) (fun w _ => by kernel_rfl) (⟨bO17_0.1, bO17_1.1, bO17_2.1, bO17_3.1, bO17_4.1, bO17_5.1, bO17_6.1, (hx9.ext hX5).c0 (i := i) (by omega), (hx9.ext hX5).c1 (i := i) (by omega), (hx9.ext hX5).c2 (i := i) (by omega), (hx9.ext hX5).c3 (i := i) (by omega), (hx9.ext hX5).c4 (i := i) (by omega), (hx9.ext hX5).c5 (i := i) (by omega), (hx9.ext hX5).c6 (i := i) (by omega)⟩) ?_
    refine wd_take 1 (.bool false) hR rfl (by kernel_rfl) rfl (by kernel_rfl) (fun w _ => by kernel_rfl) (⟨bO17_0.1, bO17_1.1, bO17_2.1, bO17_3.1, bO17_4.1, bO17_5.1, bO17_6.1, (hx9.ext hX5).c0 (i := i) (by omega), (hx9.ext hX5).c1 (i := i) (by omega), (hx9.ext hX5).c2 (i := i) (by omega), (hx9.ext hX5).c3 (i := i) (by omega), (hx9.ext hX5).c4 (i := i) (by omega), (hx9.ext hX5).c5 (i := i) (by omega), (hx9.ext hX5).c6 (i := i) (by omega)⟩) ?_
    refine wd_take 2 (.bool false) hR rfl (by kernel_rfl) rfl (by kernel_rfl) (fun w _ => by kernel_rfl) (⟨bO17_0.1, bO17_1.1, bO17_2.1, bO17_3.1, bO17_4.1, bO17_5.1, bO17_6.1, (hx9.ext hX5).c0 (i := i) (by omega), (hx9.ext hX5).c1 (i := i) (by omega), (hx9.ext hX5).c2 (i := i) (by omega), (hx9.ext hX5).c3 (i := i) (by omega), (hx9.ext hX5).c4 (i := i) (by omega), (hx9.ext hX5).c5 (i := i) (by omega), (hx9.ext hX5).c6 (i := i) (by omega)⟩) ?_
    refine wd_take 3 (.int .i64 0) hR rfl (by kernel_rfl) rfl (by kernel_rfl) (fun w _ => by kernel_rfl) (⟨bO17_0.1, bO17_1.1, bO17_2.1, bO17_3.1, bO17_4.1, bO17_5.1, bO17_6.1, (hx9.ext hX5).c0 (i := i) (by omega), (hx9.ext hX5).c1 (i := i) (by omega), (hx9.ext hX5).c2 (i := i) (by omega), (hx9.ext hX5).c3 (i := i) (by omega), (hx9.ext hX5).c4 (i := i) (by omega), (hx9.ext hX5).c5 (i := i) (by omega), (hx9.ext hX5).c6 (i := i) (by omega)⟩) ?_
    refine wd_take 4 (.bool false) hR rfl (by kernel_rfl) rfl (by kernel_rfl) (fun w _ => by kernel_rfl) (⟨bO17_0.1, bO17_1.1, bO17_2.1, bO17_3.1, bO17_4.1, bO17_5.1, bO17_6.1, (hx9.ext hX5).c0 (i := i) (by omega), (hx9.ext hX5).c1 (i := i) (by omega), (hx9.ext hX5).c2 (i := i) (by omega), (hx9.ext hX5).c3 (i := i) (by omega), (hx9.ext hX5).c4 (i := i) (by omega), (hx9.ext hX5).c5 (i := i) (by omega), (hx9.ext hX5).c6 (i := i) (by omega)⟩) ?_
    refine wd_take 5 (.bool false) hR rfl (by kernel_rfl) rfl (by kernel_rfl) (fun w _ => by kernel_rfl) (⟨bO17_0.1, bO17_1.1, bO17_2.1, bO17_3.1, bO17_4.1, bO17_5.1, bO17_6.1, (hx9.ext hX5).c0 (i := i) (by omega), (hx9.ext hX5).c1 (i := i) (by omega), (hx9.ext hX5).c2 (i := i) (by omega), (hx9.ext hX5).c3 (i := i) (by omega), (hx9.ext hX5).c4 (i := i) (by omega), (hx9.ext hX5).c5 (i := i) (by omega), (hx9.ext hX5).c6 (i := i) (by omega)⟩) ?_
    refine wd_take 6 (.bool false) hR rfl (by kernel_rfl) rfl (by kernel_rfl) (fun w _ => by kernel_rfl) (⟨bO17_0.1, bO17_1.1, bO17_2.1, bO17_3.1, bO17_4.1, bO17_5.1, bO17_6.1, (hx9.ext hX5).c0 (i := i) (by omega), (hx9.ext hX5).c1 (i := i) (by omega), (hx9.ext hX5).c2 (i := i) (by omega), (hx9.ext hX5).c3 (i := i) (by omega), (hx9.ext hX5).c4 (i := i) (by omega), (hx9.ext hX5).c5 (i := i) (by omega), (hx9.ext hX5).c6 (i := i) (by omega)⟩) ?_
    refine wd_take 7 (.agg #[.int .i64 ((recN (LL 0) i).c : Int), .int .i64 ((recN (LL 0) i).n : Int), .int .i64 ((recN (LL 0) i).t : Int), .int .i64 ((recN (LL 0) i).o : Int), .int .i64 ((recN (LL 0) i).w : Int), .int .i64 ((recN (LL 0) i).k : Int), .string ((recN (LL 0) i).x)]) hR rfl (by kernel_rfl) rfl (by kernel_rfl) (fun w hS => ex_load rfl (by kernel_rfl) (ld49 (hS.1) (hS.2.1) (hS.2.2.1) (hS.2.2.2.1) (hS.2.2.2.2.1) (hS.2.2.2.2.2.1) (hS.2.2.2.2.2.2.1))) (⟨bO17_0.1, bO17_1.1, bO17_2.1, bO17_3.1, bO17_4.1, bO17_5.1, bO17_6.1, (hx9.ext hX5).c0 (i := i) (by omega), (hx9.ext hX5).c1 (i := i) (by omega), (hx9.ext hX5).c2 (i := i) (by omega), (hx9.ext hX5).c3 (i := i) (by omega), (hx9.ext hX5).c4 (i := i) (by omega), (hx9.ext hX5).c5 (i := i) (by omega), (hx9.ext hX5).c6 (i := i) (by omega)⟩) ?_
    refine wd_take 8 (.slice (some ⟨b9, o9, none⟩) n0 c0) hR rfl (by kernel_rfl) rfl (by kernel_rfl) (fun w _ => by kernel_rfl) (⟨bO17_0.1, bO17_1.1, bO17_2.1, bO17_3.1, bO17_4.1, bO17_5.1, bO17_6.1, (hx9.ext hX5).c0 (i := i) (by omega), (hx9.ext hX5).c1 (i := i) (by omega), (hx9.ext hX5).c2 (i := i) (by omega), (hx9.ext hX5).c3 (i := i) (by omega), (hx9.ext hX5).c4 (i := i) (by omega), (hx9.ext hX5).c5 (i := i) (by omega), (hx9.ext hX5).c6 (i := i) (by omega)⟩) ?_
    refine wd_take 9 (.int .i64 (((i : Nat) : Int) : Int)) hR rfl (by kernel_rfl) rfl (by kernel_rfl) (fun w _ => by kernel_rfl) (⟨bO17_0.1, bO17_1.1, bO17_2.1, bO17_3.1, bO17_4.1, bO17_5.1, bO17_6.1, (hx9.ext hX5).c0 (i := i) (by omega), (hx9.ext hX5).c1 (i := i) (by omega), (hx9.ext hX5).c2 (i := i) (by omega), (hx9.ext hX5).c3 (i := i) (by omega), (hx9.ext hX5).c4 (i := i) (by omega), (hx9.ext hX5).c5 (i := i) (by omega), (hx9.ext hX5).c6 (i := i) (by omega)⟩) ?_
    refine wd_take 10 (.pointer (some ⟨b9, o9 + i * 7, none⟩)) hR rfl (by kernel_rfl) rfl (by kernel_rfl) (fun w _ => ex_index (p := .slice (some ⟨b9, o9, none⟩) n0 c0) (i := .int .i64 ((i : Nat) : Int)) rfl (by kernel_rfl) (by kernel_rfl) (ix23 (k := i) (by omega))) (⟨bO17_0.1, bO17_1.1, bO17_2.1, bO17_3.1, bO17_4.1, bO17_5.1, bO17_6.1, (hx9.ext hX5).c0 (i := i) (by omega), (hx9.ext hX5).c1 (i := i) (by omega), (hx9.ext hX5).c2 (i := i) (by omega), (hx9.ext hX5).c3 (i := i) (by omega), (hx9.ext hX5).c4 (i := i) (by omega), (hx9.ext hX5).c5 (i := i) (by omega), (hx9.ext hX5).c6 (i := i) (by omega)⟩) ?_
    refine wd_take 11 (.agg #[.int .i64 ((recN ((LL 0)) i).c : Int), .int .i64 ((recN ((LL 0)) i).n : Int), .int .i64 ((recN ((LL 0)) i).t : Int), .int .i64 ((recN ((LL 0)) i).o : Int), .int .i64 ((recN ((LL 0)) i).w : Int), .int .i64 ((recN ((LL 0)) i).k : Int), .string ((recN ((LL 0)) i).x)]) hR rfl (by kernel_rfl) rfl (by kernel_rfl) (fun w hS => ex_load rfl (by kernel_rfl) (ld49 (hS.2.2.2.2.2.2.2.1) (hS.2.2.2.2.2.2.2.2.1) (hS.2.2.2.2.2.2.2.2.2.1) (hS.2.2.2.2.2.2.2.2.2.2.1) (hS.2.2.2.2.2.2.2.2.2.2.2.1) (hS.2.2.2.2.2.2.2.2.2.2.2.2.1) (hS.2.2.2.2.2.2.2.2.2.2.2.2.2))) (⟨bO17_0.1, bO17_1.1, bO17_2.1, bO17_3.1, bO17_4.1, bO17_5.1, bO17_6.1, (hx9.ext hX5).c0 (i := i) (by omega), (hx9.ext hX5).c1 (i := i) (by omega), (hx9.ext hX5).c2 (i := i) (by omega), (hx9.ext hX5).c3 (i := i) (by omega), (hx9.ext hX5).c4 (i := i) (by omega), (hx9.ext hX5).c5 (i := i) (by omega), (hx9.ext hX5).c6 (i := i) (by omega)⟩) ?_
    refine wd_take 12 (.bool false) hR rfl (by kernel_rfl) rfl (by kernel_rfl) (fun w _ => ex_binV (a := .agg #[.int .i64 ((recN (LL 0) i).c : Int), .int .i64 ((recN (LL 0) i).n : Int), .int .i64 ((recN (LL 0) i).t : Int), .int .i64 ((recN (LL 0) i).o : Int), .int .i64 ((recN (LL 0) i).w : Int), .int .i64 ((recN (LL 0) i).k : Int), .string ((recN (LL 0) i).x)]) (b := .agg #[.int .i64 ((recN ((LL 0)) i).c : Int), .int .i64 ((recN ((LL 0)) i).n : Int), .int .i64 ((recN ((LL 0)) i).t : Int), .int .i64 ((recN ((LL 0)) i).o : Int), .int .i64 ((recN ((LL 0)) i).w : Int), .int .i64 ((recN ((LL 0)) i).k : Int), .string ((recN ((LL 0)) i).x)]) rfl (by kernel_rfl) (by kernel_rfl) (eqG_agg (by kernel_rfl)) (bin_nqv_t (rec_eq _ ((recN (LL 0) i)) ((recN ((LL 0)) i))) rfl)) (⟨bO17_0.1, bO17_1.1, bO17_2.1, bO17_3.1, bO17_4.1, bO17_5.1, bO17_6.1, (hx9.ext hX5).c0 (i := i) (by omega), (hx9.ext hX5).c1 (i := i) (by omega), (hx9.ext hX5).c2 (i := i) (by omega), (hx9.ext hX5).c3 (i := i) (by omega), (hx9.ext hX5).c4 (i := i) (by omega), (hx9.ext hX5).c5 (i := i) (by omega), (hx9.ext hX5).c6 (i := i) (by omega)⟩) ?_
    refine wd_take 13 (.bool false) hR rfl (by kernel_rfl) rfl (by kernel_rfl) (fun w _ => by kernel_rfl) (⟨bO17_0.1, bO17_1.1, bO17_2.1, bO17_3.1, bO17_4.1, bO17_5.1, bO17_6.1, (hx9.ext hX5).c0 (i := i) (by omega), (hx9.ext hX5).c1 (i := i) (by omega), (hx9.ext hX5).c2 (i := i) (by omega), (hx9.ext hX5).c3 (i := i) (by omega), (hx9.ext hX5).c4 (i := i) (by omega), (hx9.ext hX5).c5 (i := i) (by omega), (hx9.ext hX5).c6 (i := i) (by omega)⟩) ?_
    refine wd_take 14 (.bool false) hR rfl (by kernel_rfl) rfl (by kernel_rfl) (fun w _ => by kernel_rfl) (⟨bO17_0.1, bO17_1.1, bO17_2.1, bO17_3.1, bO17_4.1, bO17_5.1, bO17_6.1, (hx9.ext hX5).c0 (i := i) (by omega), (hx9.ext hX5).c1 (i := i) (by omega), (hx9.ext hX5).c2 (i := i) (by omega), (hx9.ext hX5).c3 (i := i) (by omega), (hx9.ext hX5).c4 (i := i) (by omega), (hx9.ext hX5).c5 (i := i) (by omega), (hx9.ext hX5).c6 (i := i) (by omega)⟩) ?_
    refine wd_take 15 (.string (Rep.encR (recN (LL 0) i))) hR rfl (by kernel_rfl) rfl (by kernel_rfl) (fun w _ => by kernel_rfl) (⟨bO17_0.1, bO17_1.1, bO17_2.1, bO17_3.1, bO17_4.1, bO17_5.1, bO17_6.1, (hx9.ext hX5).c0 (i := i) (by omega), (hx9.ext hX5).c1 (i := i) (by omega), (hx9.ext hX5).c2 (i := i) (by omega), (hx9.ext hX5).c3 (i := i) (by omega), (hx9.ext hX5).c4 (i := i) (by omega), (hx9.ext hX5).c5 (i := i) (by omega), (hx9.ext hX5).c6 (i := i) (by omega)⟩) ?_
    refine wd_take 16 (.int .i64 (((ByteArray.size (Rep.encR (recN (LL 0) i)) : Nat) : Int) : Int)) hR rfl (by kernel_rfl) rfl (by kernel_rfl) (fun w _ => by kernel_rfl) (⟨bO17_0.1, bO17_1.1, bO17_2.1, bO17_3.1, bO17_4.1, bO17_5.1, bO17_6.1, (hx9.ext hX5).c0 (i := i) (by omega), (hx9.ext hX5).c1 (i := i) (by omega), (hx9.ext hX5).c2 (i := i) (by omega), (hx9.ext hX5).c3 (i := i) (by omega), (hx9.ext hX5).c4 (i := i) (by omega), (hx9.ext hX5).c5 (i := i) (by omega), (hx9.ext hX5).c6 (i := i) (by omega)⟩) ?_
    refine wd_take 17 (.bool false) hR rfl (by kernel_rfl) rfl (by kernel_rfl) (fun w _ => ev_neq (show _ = Result.ok (Next.value (Value.bool ((((ByteArray.size (Rep.encR (recN (LL 0) i)) : Nat) : Int) : Int) == (0 : Int)))) _ from by kernel_rfl) (by omega)) (⟨bO17_0.1, bO17_1.1, bO17_2.1, bO17_3.1, bO17_4.1, bO17_5.1, bO17_6.1, (hx9.ext hX5).c0 (i := i) (by omega), (hx9.ext hX5).c1 (i := i) (by omega), (hx9.ext hX5).c2 (i := i) (by omega), (hx9.ext hX5).c3 (i := i) (by omega), (hx9.ext hX5).c4 (i := i) (by omega), (hx9.ext hX5).c5 (i := i) (by omega), (hx9.ext hX5).c6 (i := i) (by omega)⟩) ?_
    refine wd_take 18 (.bool false) hR rfl (by kernel_rfl) rfl (by kernel_rfl) (fun w _ => by kernel_rfl) (⟨bO17_0.1, bO17_1.1, bO17_2.1, bO17_3.1, bO17_4.1, bO17_5.1, bO17_6.1, (hx9.ext hX5).c0 (i := i) (by omega), (hx9.ext hX5).c1 (i := i) (by omega), (hx9.ext hX5).c2 (i := i) (by omega), (hx9.ext hX5).c3 (i := i) (by omega), (hx9.ext hX5).c4 (i := i) (by omega), (hx9.ext hX5).c5 (i := i) (by omega), (hx9.ext hX5).c6 (i := i) (by omega)⟩) ?_
    refine wd_end hL hR hK (by kernel_rfl) ?_
    refine qw_then ?_
    refine cw_clean [2, 3, 9, 10, 11, 12, 13, 74] (ws' := [(2, .int .i64 (i2 : Int)), (3, .int .u8 (((UInt8.toNat b3 : Nat) : Int) : Int)), (9, .bool true), (10, .slice (some ⟨b9, o9, none⟩) n0 c0), (11, .slice (some ⟨g9, 0, none⟩) n9 c9), (12, .int .i64 (((i : Nat) : Int) : Int)), (13, .string (Rep.encR (recN (LL 0) i))), (74, .bool false)]) (by kernel_rfl) (fun L => ?_)
    refine cw_f (by kernel_rfl) ?_
    refine cw_skip ?_
    refine qw_then ?_
    refine cw_seq ?_
    refine cw_plain ?_
    refine pl_take (.string (Rep.encR (recN (LL 0) i))) rfl (by kernel_rfl) (by kernel_rfl) (by kernel_rfl) (by kernel_rfl) ?_
    obtain ⟨g25, cap26, w27, hrun28, hlo29, hgl30, hby31, hb⟩ := conv_bytes X23 (Rep.encR (recN (LL 0) i))
    refine pl_step rfl (by kernel_rfl) (by kernel_rfl) (by kernel_rfl) (sn_eff (v := .slice (some ⟨g25, 0, none⟩) (ByteArray.size (Rep.encR (recN (LL 0) i))) cap26) (w' := w27) (ex_conv rfl (by kernel_rfl) hrun28) ?_)
    replace hE := hE.trans hb
    replace hX5 := hX5.trans hb
    replace ow9 := ow9.ext hb
    replace bO17_0 := BoxAt.ext hb bO17_0
    replace bO17_1 := BoxAt.ext hb bO17_1
    replace bO17_2 := BoxAt.ext hb bO17_2
    replace bO17_3 := BoxAt.ext hb bO17_3
    replace bO17_4 := BoxAt.ext hb bO17_4
    replace bO17_5 := BoxAt.ext hb bO17_5
    replace bO17_6 := BoxAt.ext hb bO17_6
    have hs32 := hb.size
    clear hb
    refine pl_take (.slice (some ⟨g25, 0, none⟩) (ByteArray.size (Rep.encR (recN (LL 0) i))) cap26) rfl (by kernel_rfl) (by kernel_rfl) (by kernel_rfl) (by kernel_rfl) ?_
    refine pl_nil ?_
    refine qw_then ?_
    refine cw_seq ?_
    refine cw_plain ?_
    refine pl_take (.slice (some ⟨g25, 0, none⟩) (ByteArray.size (Rep.encR (recN (LL 0) i))) cap26) rfl (by kernel_rfl) (by kernel_rfl) (by kernel_rfl) (by kernel_rfl) ?_
    refine pl_take (.int .i64 (i2 : Int)) rfl (by kernel_rfl) (by kernel_rfl) (by kernel_rfl) (by kernel_rfl) ?_
    refine pl_take (.slice (some ⟨g25, 0, none⟩) (ByteArray.size (Rep.encR (recN (LL 0) i))) cap26) rfl (by kernel_rfl) (by kernel_rfl) (by kernel_rfl) (by kernel_rfl) ?_
    refine pl_take (.int .i64 (((ByteArray.size (Rep.encR (recN (LL 0) i)) : Nat) : Int) : Int)) rfl (by kernel_rfl) (by kernel_rfl) (by kernel_rfl) (by kernel_rfl) ?_
    refine pl_step rfl (by kernel_rfl) (by kernel_rfl) (by kernel_rfl) (sn_call (f := 21) (args := #[.int .i64 (i2 : Int), .int .i64 (((ByteArray.size (Rep.encR (recN (LL 0) i)) : Nat) : Int) : Int)]) (by kernel_rfl) ((lpick_c (c := i2) (n := ByteArray.size (Rep.encR (recN (LL 0) i))) _ h2 (by omega)).mono ?_))
    rintro e w33 ⟨rfl, hb⟩
    replace hE := hE.trans hb
    replace hX5 := hX5.trans hb
    replace ow9 := ow9.ext hb
    replace bO17_0 := BoxAt.ext hb bO17_0
    replace bO17_1 := BoxAt.ext hb bO17_1
    replace bO17_2 := BoxAt.ext hb bO17_2
    replace bO17_3 := BoxAt.ext hb bO17_3
    replace bO17_4 := BoxAt.ext hb bO17_4
    replace bO17_5 := BoxAt.ext hb bO17_5
    replace bO17_6 := BoxAt.ext hb bO17_6
    replace hby31 := hby31.ext hb
    have hs34 := hb.size
    clear hb
    refine ⟨_, rfl, ?_⟩
    refine pl_take (.int .u8 (((UInt8.toNat b3 : Nat) : Int) : Int)) rfl (by kernel_rfl) (by kernel_rfl) (by kernel_rfl) (by kernel_rfl) ?_
    refine pl_take (.pointer (some ⟨g25, Rep.pk i2 (ByteArray.size (Rep.encR (recN (LL 0) i))), none⟩)) rfl (by kernel_rfl) (by kernel_rfl) (by kernel_rfl) (ex_index (p := .slice (some ⟨g25, 0, none⟩) (ByteArray.size (Rep.encR (recN (LL 0) i))) cap26) (i := .int .i64 ((Rep.pk i2 (ByteArray.size (Rep.encR (recN (LL 0) i))) : Nat) : Int)) rfl (by kernel_rfl) (by kernel_rfl) (ix63z (k := Rep.pk i2 (ByteArray.size (Rep.encR (recN (LL 0) i)))) (by omega))) ?_
    have hy9 := hby31
    obtain ⟨by9, hb9⟩ := hy9 _ hp9
    refine pl_put rfl (by kernel_rfl) (by kernel_rfl) (sn_set (O := g25) (j := Rep.pk i2 (ByteArray.size (Rep.encR (recN (LL 0) i)))) (v := .int .u8 (((UInt8.toNat b3 : Nat) : Int) : Int)) (ex_store (p := .pointer (some ⟨g25, Rep.pk i2 (ByteArray.size (Rep.encR (recN (LL 0) i))), none⟩)) (v := .int .u8 (((UInt8.toNat b3 : Nat) : Int) : Int)) rfl (by kernel_rfl) (by kernel_rfl) (st5 hb9.1 hb9.2)) hb9 ?_)
    intro X35 ho9 hv0 hk
    have hby36 := hy9.set hv0 hk
    clear hk hv0 hb9 hy9
    replace hE := ho9.ext hE (Nat.le_trans (Nat.le_trans hs2 (Nat.le_trans hs4 (Nat.le_trans hs8 (Nat.le_trans hs10 (Nat.le_trans hs14 (Nat.le_trans hs16 (Nat.le_trans hs19 (Nat.le_trans hs22 hs24)))))))) hlo29)
    replace hX5 := ho9.ext hX5 (Nat.le_trans (Nat.le_trans hs8 (Nat.le_trans hs10 (Nat.le_trans hs14 (Nat.le_trans hs16 (Nat.le_trans hs19 (Nat.le_trans hs22 hs24)))))) hlo29)
    replace ow9 := ow9.turn ho9 (own_not2 hbk9 (Nat.le_trans (Nat.le_trans hs14 (Nat.le_trans hs16 (Nat.le_trans hs19 (Nat.le_trans hs22 hs24)))) hlo29)) (fun _ _ _ h => by rw [h.2]; exact fun b hb => by cases hb)
    replace bO17_0 := ho9.box (Nat.ne_of_gt (Nat.lt_of_lt_of_le lt20 (Nat.le_trans (Nat.le_trans hs22 hs24) hlo29))) bO17_0
    replace bO17_1 := ho9.box (Nat.ne_of_gt (Nat.lt_of_lt_of_le lt20 (Nat.le_trans (Nat.le_trans hs22 hs24) hlo29))) bO17_1
    replace bO17_2 := ho9.box (Nat.ne_of_gt (Nat.lt_of_lt_of_le lt20 (Nat.le_trans (Nat.le_trans hs22 hs24) hlo29))) bO17_2
    replace bO17_3 := ho9.box (Nat.ne_of_gt (Nat.lt_of_lt_of_le lt20 (Nat.le_trans (Nat.le_trans hs22 hs24) hlo29))) bO17_3
    replace bO17_4 := ho9.box (Nat.ne_of_gt (Nat.lt_of_lt_of_le lt20 (Nat.le_trans (Nat.le_trans hs22 hs24) hlo29))) bO17_4
    replace bO17_5 := ho9.box (Nat.ne_of_gt (Nat.lt_of_lt_of_le lt20 (Nat.le_trans (Nat.le_trans hs22 hs24) hlo29))) bO17_5
    replace bO17_6 := ho9.box (Nat.ne_of_gt (Nat.lt_of_lt_of_le lt20 (Nat.le_trans (Nat.le_trans hs22 hs24) hlo29))) bO17_6
    have hs37 : w33.heap.size ≤ X35.heap.size := Nat.le_of_eq ho9.size.symm
    clear ho9
    refine pl_nil ?_
    refine qw_then ?_
    refine cw_clean [2, 3, 9, 10, 11, 12, 13, 17] (ws' := [(2, .int .i64 (i2 : Int)), (3, .int .u8 (((UInt8.toNat b3 : Nat) : Int) : Int)), (9, .bool true), (10, .slice (some ⟨b9, o9, none⟩) n0 c0), (11, .slice (some ⟨g9, 0, none⟩) n9 c9), (12, .int .i64 (((i : Nat) : Int) : Int)), (13, .string (Rep.encR (recN (LL 0) i))), (17, .slice (some ⟨g25, 0, none⟩) (ByteArray.size (Rep.encR (recN (LL 0) i))) cap26)]) (by kernel_rfl) (fun L => ?_)
    refine cw_draw [(some 84, [11], []), (some 85, [17], []), (some 86, [85], [1]), (some 87, [13], []), (some 88, [2], []), (some 89, [13], []), (some 90, [89], [5]), (some 91, [88, 90], [4, 6]), (some 92, [87, 91], [3, 7]), (some 93, [13], []), (some 94, [93], [9]), (some 95, [86, 92, 94], [2, 8, 10]), (some 96, [84, 95], [0, 11, 7]), (some 11, [96], [12, 12, 0, 1, 2, 3, 4, 5, 6, 7, 8, 9, 10, 11, 12])] (fun w' => True) (by kernel_rfl) (by kernel_rfl) (by kernel_rfl) (by kernel_rfl) ((calm_block (calm_then (calm_then (calm_block (calm_then calm_body)))))) (trivial) (fun ops Q X38 hb hL hR hK => ?_)
    replace hE := hE.trans hb
    replace hX5 := hX5.trans hb
    replace ow9 := ow9.ext hb
    replace bO17_0 := BoxAt.ext hb bO17_0
    replace bO17_1 := BoxAt.ext hb bO17_1
    replace bO17_2 := BoxAt.ext hb bO17_2
    replace bO17_3 := BoxAt.ext hb bO17_3
    replace bO17_4 := BoxAt.ext hb bO17_4
    replace bO17_5 := BoxAt.ext hb bO17_5
    replace bO17_6 := BoxAt.ext hb bO17_6
    replace hby36 := hby36.ext hb
    have hs39 := hb.size
    clear hb
    refine wd_take 0 (.slice (some ⟨g9, 0, none⟩) n9 c9) hR rfl (by kernel_rfl) rfl (by kernel_rfl) (fun w _ => by kernel_rfl) (trivial) ?_
    refine wd_take 1 (.slice (some ⟨g25, 0, none⟩) (ByteArray.size (Rep.encR (recN (LL 0) i))) cap26) hR rfl (by kernel_rfl) rfl (by kernel_rfl) (fun w _ => by kernel_rfl) (trivial) ?_
    refine wd_take 3 (.string (Rep.encR (recN (LL 0) i))) hR rfl (by kernel_rfl) rfl (by kernel_rfl) (fun w _ => by kernel_rfl) (trivial) ?_
    refine wd_take 4 (.int .i64 (i2 : Int)) hR rfl (by kernel_rfl) rfl (by kernel_rfl) (fun w _ => by kernel_rfl) (trivial) ?_
    refine wd_take 5 (.string (Rep.encR (recN (LL 0) i))) hR rfl (by kernel_rfl) rfl (by kernel_rfl) (fun w _ => by kernel_rfl) (trivial) ?_
    refine wd_take 6 (.int .i64 (((ByteArray.size (Rep.encR (recN (LL 0) i)) : Nat) : Int) : Int)) hR rfl (by kernel_rfl) rfl (by kernel_rfl) (fun w _ => by kernel_rfl) (trivial) ?_
    refine wd_take 9 (.string (Rep.encR (recN (LL 0) i))) hR rfl (by kernel_rfl) rfl (by kernel_rfl) (fun w _ => by kernel_rfl) (trivial) ?_
    refine wd_take 10 (.string ((Rep.encR (recN (LL 0) i)) ++ (⟨#[120]⟩))) hR rfl (by kernel_rfl) rfl (by kernel_rfl) (fun w _ => ex_binV (a := .string (Rep.encR (recN (LL 0) i))) (b := .string (⟨#[120]⟩)) rfl (by kernel_rfl) (by kernel_rfl) eqG_str (bin_cat (by have : ByteArray.size (⟨#[120]⟩ : ByteArray) = 1 := rfl; omega))) (trivial) ?_
    refine wd_two 2 7 hR rfl rfl (by kernel_rfl) (by kernel_rfl) (by kernel_rfl) (by kernel_rfl) ?_ ?_
    ·
      obtain ⟨s40, hsz41, hrun42⟩ := BytW.str hby36 cap26
      have hs40 : ByteArray.size s40 ≤ 5000 := by omega
      refine sn_eff (v := .string s40) (w' := X38) (ex_conv rfl (by kernel_rfl) hrun42) ⟨trivial, ?_⟩
      refine wd_step 7 hR rfl (by kernel_rfl) (by kernel_rfl) (by kernel_rfl) (sn_call (f := 21) (args := #[.int .i64 (i2 : Int), .int .i64 (((ByteArray.size (Rep.encR (recN (LL 0) i)) : Nat) : Int) : Int)]) (by kernel_rfl) ((lpick_c (c := i2) (n := ByteArray.size (Rep.encR (recN (LL 0) i))) _ h2 (by omega)).mono ?_))
      rintro e w43 ⟨rfl, hb⟩
      replace hE := hE.trans hb
      replace hX5 := hX5.trans hb
      replace ow9 := ow9.ext hb
      replace bO17_0 := BoxAt.ext hb bO17_0
      replace bO17_1 := BoxAt.ext hb bO17_1
      replace bO17_2 := BoxAt.ext hb bO17_2
      replace bO17_3 := BoxAt.ext hb bO17_3
      replace bO17_4 := BoxAt.ext hb bO17_4
      replace bO17_5 := BoxAt.ext hb bO17_5
      replace bO17_6 := BoxAt.ext hb bO17_6
      replace hby36 := hby36.ext hb
      have hs44 := hb.size
      clear hb
      refine ⟨_, rfl, trivial, ?_⟩
      refine wd_take 8 (.string (ByteArray.extract (Rep.encR (recN (LL 0) i)) 0 (Rep.pk i2 (ByteArray.size (Rep.encR (recN (LL 0) i)))))) hR rfl (by kernel_rfl) rfl (by kernel_rfl) (fun w _ => ex_slice (p := .string (Rep.encR (recN (LL 0) i))) rfl (by kernel_rfl) (by kernel_rfl) (by kernel_rfl) (by kernel_rfl) (slS_01 (j := Rep.pk i2 (ByteArray.size (Rep.encR (recN (LL 0) i)))) (by omega))) (trivial) ?_
      refine wd_step 11 hR rfl (by kernel_rfl) (by kernel_rfl) (by kernel_rfl) (sn_newS (us := #[.string s40, .string (ByteArray.extract (Rep.encR (recN (LL 0) i)) 0 (Rep.pk i2 (ByteArray.size (Rep.encR (recN (LL 0) i))))), .string ((Rep.encR (recN (LL 0) i)) ++ (⟨#[120]⟩))]) (t := 9) (k := 3) (c := 3) (by kernel_rfl) ?_)
      intro O45 X46 hO hOs hb hbx
      have hzO45 := hO; have hyO45 := hOs; clear hO hOs
      have bO45_0 : BoxAt X46 O45 0 (.string s40) := hbx 0 _ rfl
      have bO45_1 : BoxAt X46 O45 1 (.string (ByteArray.extract (Rep.encR (recN (LL 0) i)) 0 (Rep.pk i2 (ByteArray.size (Rep.encR (recN (LL 0) i)))))) := hbx 1 _ rfl
      have bO45_2 : BoxAt X46 O45 2 (.string ((Rep.encR (recN (LL 0) i)) ++ (⟨#[120]⟩))) := hbx 2 _ rfl
      clear hbx
      replace hE := hE.trans hb
      replace hX5 := hX5.trans hb
      replace ow9 := ow9.ext hb
      replace bO17_0 := BoxAt.ext hb bO17_0
      replace bO17_1 := BoxAt.ext hb bO17_1
      replace bO17_2 := BoxAt.ext hb bO17_2
      replace bO17_3 := BoxAt.ext hb bO17_3
      replace bO17_4 := BoxAt.ext hb bO17_4
      replace bO17_5 := BoxAt.ext hb bO17_5
      replace bO17_6 := BoxAt.ext hb bO17_6
      replace hby36 := hby36.ext hb
      have hs47 := hb.size
      clear hb
      have lt48 := bO45_0.lt
      refine ⟨trivial, ?_⟩
      have hx1 : ByteArray.size (ByteArray.extract (Rep.encR (recN (LL 0) i)) 0 (Rep.pk i2 (ByteArray.size (Rep.encR (recN (LL 0) i))))) ≤ 5000 := by rw [ByteArray.size_extract]; omega
      have hx2 : ByteArray.size ((Rep.encR (recN (LL 0) i)) ++ (⟨#[120]⟩)) ≤ 5000 := by rw [ByteArray.size_append]; have : ByteArray.size (⟨#[120]⟩ : ByteArray) = 1 := rfl; omega
      have hbs59 := ow9.base
      obtain ⟨g49, cap50, w51, hrun52, own53, hgr54, hgb55⟩ := app_str3 (c := 3) ow9 ((Nat.le_trans hs8 (Nat.le_trans hs10 (Nat.le_trans hs14 (Nat.le_trans hs16 (Nat.le_trans hs19 (Nat.le_trans hs22 (Nat.le_trans hs24 (Nat.le_trans hs32 (Nat.le_trans hs34 (Nat.le_trans hs37 (Nat.le_trans hs39 (Nat.le_trans hs44 hs47))))))))))))) hl9 bO45_0.1 bO45_1.1 bO45_2.1 (by omega)
      refine wd_step 12 hR rfl (by kernel_rfl) (by kernel_rfl) (by kernel_rfl) (sn_eff (v := .slice (some ⟨g49, 0, none⟩) (n9 + 3) cap50) (w' := w51) (ex_append rfl (by kernel_rfl) (by kernel_rfl) hrun52) ?_)
      replace hE := hgr54.ext _ hE (Nat.le_trans hs2 hs4)
      replace hX5 := hgr54.ext _ hX5 (Nat.le_refl _)
      have hs56 := hgr54.size
      refine ⟨trivial, ?_⟩
      have hl57 := own53.base g49 rfl; have hh58 := own53.lt g49 rfl
      refine wd_take 13 (.slice (some ⟨g49, 0, none⟩) (n9 + 3) cap50) hR rfl (by kernel_rfl) rfl (by kernel_rfl) (fun w _ => by kernel_rfl) (trivial) ?_
      refine wd_end hL hR hK (by kernel_rfl) ?_
      refine qw_block ?_
      refine qw_then ?_
      refine cw_clean [2, 3, 9, 10, 11, 12] (ws' := [(2, .int .i64 (i2 : Int)), (3, .int .u8 (((UInt8.toNat b3 : Nat) : Int) : Int)), (9, .bool true), (10, .slice (some ⟨b9, o9, none⟩) n0 c0), (11, .slice (some ⟨g49, 0, none⟩) (n9 + 3) cap50), (12, .int .i64 (((i : Nat) : Int) : Int))]) (by kernel_rfl) (fun L => ?_)
      refine cw_plain ?_
      refine pl_take (.int .i64 (((i : Nat) : Int) : Int)) rfl (by kernel_rfl) (by kernel_rfl) (by kernel_rfl) (by kernel_rfl) ?_
      refine pl_take (.int .i64 (((i + 1 : Nat) : Int) : Int)) rfl (by kernel_rfl) (by kernel_rfl) (by kernel_rfl) (ev_wrap (by kernel_rfl) (by omega) (by omega)) ?_
      refine pl_take (.int .i64 (((i + 1 : Nat) : Int) : Int)) rfl (by kernel_rfl) (by kernel_rfl) (by kernel_rfl) (by kernel_rfl) ?_
      refine pl_nil ?_
      refine qw_round [2, 3, 9, 10, 11, 12] (ws' := [(2, .int .i64 (i2 : Int)), (3, .int .u8 (((UInt8.toNat b3 : Nat) : Int) : Int)), (9, .bool true), (10, .slice (some ⟨b9, o9, none⟩) n0 c0), (11, .slice (some ⟨g49, 0, none⟩) (n9 + 3) cap50), (12, .int .i64 (((i + 1 : Nat) : Int) : Int))]) (by kernel_rfl) _ ?_ ⟨(i + 1), g49, (n9 + 3), cap50, (l9 ++ [s40, ByteArray.extract (Rep.encR (recN (LL 0) i)) 0 (Rep.pk i2 (ByteArray.size (Rep.encR (recN (LL 0) i)))), (Rep.encR (recN (LL 0) i)) ++ (⟨#[120]⟩)]), rfl, rfl, (Nat.le_trans hs10 (Nat.le_trans hs14 (Nat.le_trans hs16 (Nat.le_trans hs19 (Nat.le_trans hs22 (Nat.le_trans hs24 (Nat.le_trans hs32 (Nat.le_trans hs34 (Nat.le_trans hs37 (Nat.le_trans hs39 (Nat.le_trans hs44 (Nat.le_trans hs47 hs56)))))))))))), hE, hX5, own53, by omega, by omega, (by rw [List.length_append, hl9]; rfl), (fun s hs => by rcases List.mem_append.1 hs with h | h; exact hall s h; simp only [List.mem_cons, List.not_mem_nil, or_false] at h; rcases h with rfl | rfl | rfl; omega; omega; omega)⟩
      omega
    ·
      refine sn_call (f := 21) (args := #[.int .i64 (i2 : Int), .int .i64 (((ByteArray.size (Rep.encR (recN (LL 0) i)) : Nat) : Int) : Int)]) (by kernel_rfl) ((lpick_c (c := i2) (n := ByteArray.size (Rep.encR (recN (LL 0) i))) _ h2 (by omega)).mono ?_)
      rintro e w61 ⟨rfl, hb⟩
      replace hE := hE.trans hb
      replace hX5 := hX5.trans hb
      replace ow9 := ow9.ext hb
      replace bO17_0 := BoxAt.ext hb bO17_0
      replace bO17_1 := BoxAt.ext hb bO17_1
      replace bO17_2 := BoxAt.ext hb bO17_2
      replace bO17_3 := BoxAt.ext hb bO17_3
      replace bO17_4 := BoxAt.ext hb bO17_4
      replace bO17_5 := BoxAt.ext hb bO17_5
      replace bO17_6 := BoxAt.ext hb bO17_6
      replace hby36 := hby36.ext hb
      have hs62 := hb.size
      clear hb
      refine ⟨_, rfl, trivial, ?_⟩
      refine wd_take 8 (.string (ByteArray.extract (Rep.encR (recN (LL 0) i)) 0 (Rep.pk i2 (ByteArray.size (Rep.encR (recN (LL 0) i)))))) hR rfl (by kernel_rfl) rfl (by kernel_rfl) (fun w _ => ex_slice (p := .string (Rep.encR (recN (LL 0) i))) rfl (by kernel_rfl) (by kernel_rfl) (by kernel_rfl) (by kernel_rfl) (slS_01 (j := Rep.pk i2 (ByteArray.size (Rep.encR (recN (LL 0) i)))) (by omega))) (trivial) ?_
      obtain ⟨s63, hsz64, hrun65⟩ := BytW.str hby36 cap26
      have hs63 : ByteArray.size s63 ≤ 5000 := by omega
      refine wd_step 2 hR rfl (by kernel_rfl) (by kernel_rfl) (by kernel_rfl) (sn_eff (v := .string s63) (w' := w61) (ex_conv rfl (by kernel_rfl) hrun65) ⟨trivial, ?_⟩)
      refine wd_step 11 hR rfl (by kernel_rfl) (by kernel_rfl) (by kernel_rfl) (sn_newS (us := #[.string s63, .string (ByteArray.extract (Rep.encR (recN (LL 0) i)) 0 (Rep.pk i2 (ByteArray.size (Rep.encR (recN (LL 0) i))))), .string ((Rep.encR (recN (LL 0) i)) ++ (⟨#[120]⟩))]) (t := 9) (k := 3) (c := 3) (by kernel_rfl) ?_)
      intro O66 X67 hO hOs hb hbx
      have hzO66 := hO; have hyO66 := hOs; clear hO hOs
      have bO66_0 : BoxAt X67 O66 0 (.string s63) := hbx 0 _ rfl
      have bO66_1 : BoxAt X67 O66 1 (.string (ByteArray.extract (Rep.encR (recN (LL 0) i)) 0 (Rep.pk i2 (ByteArray.size (Rep.encR (recN (LL 0) i)))))) := hbx 1 _ rfl
      have bO66_2 : BoxAt X67 O66 2 (.string ((Rep.encR (recN (LL 0) i)) ++ (⟨#[120]⟩))) := hbx 2 _ rfl
      clear hbx
      replace hE := hE.trans hb
      replace hX5 := hX5.trans hb
      replace ow9 := ow9.ext hb
      replace bO17_0 := BoxAt.ext hb bO17_0
      replace bO17_1 := BoxAt.ext hb bO17_1
      replace bO17_2 := BoxAt.ext hb bO17_2
      replace bO17_3 := BoxAt.ext hb bO17_3
      replace bO17_4 := BoxAt.ext hb bO17_4
      replace bO17_5 := BoxAt.ext hb bO17_5
      replace bO17_6 := BoxAt.ext hb bO17_6
      replace hby36 := hby36.ext hb
      have hs68 := hb.size
      clear hb
      have lt69 := bO66_0.lt
      refine ⟨trivial, ?_⟩
      have hx1 : ByteArray.size (ByteArray.extract (Rep.encR (recN (LL 0) i)) 0 (Rep.pk i2 (ByteArray.size (Rep.encR (recN (LL 0) i))))) ≤ 5000 := by rw [ByteArray.size_extract]; omega
      have hx2 : ByteArray.size ((Rep.encR (recN (LL 0) i)) ++ (⟨#[120]⟩)) ≤ 5000 := by rw [ByteArray.size_append]; have : ByteArray.size (⟨#[120]⟩ : ByteArray) = 1 := rfl; omega
      have hbs80 := ow9.base
      obtain ⟨g70, cap71, w72, hrun73, own74, hgr75, hgb76⟩ := app_str3 (c := 3) ow9 ((Nat.le_trans hs8 (Nat.le_trans hs10 (Nat.le_trans hs14 (Nat.le_trans hs16 (Nat.le_trans hs19 (Nat.le_trans hs22 (Nat.le_trans hs24 (Nat.le_trans hs32 (Nat.le_trans hs34 (Nat.le_trans hs37 (Nat.le_trans hs39 (Nat.le_trans hs62 hs68))))))))))))) hl9 bO66_0.1 bO66_1.1 bO66_2.1 (by omega)
      refine wd_step 12 hR rfl (by kernel_rfl) (by kernel_rfl) (by kernel_rfl) (sn_eff (v := .slice (some ⟨g70, 0, none⟩) (n9 + 3) cap71) (w' := w72) (ex_append rfl (by kernel_rfl) (by kernel_rfl) hrun73) ?_)
      replace hE := hgr75.ext _ hE (Nat.le_trans hs2 hs4)
      replace hX5 := hgr75.ext _ hX5 (Nat.le_refl _)
      have hs77 := hgr75.size
      refine ⟨trivial, ?_⟩
      have hl78 := own74.base g70 rfl; have hh79 := own74.lt g70 rfl
      refine wd_take 13 (.slice (some ⟨g70, 0, none⟩) (n9 + 3) cap71) hR rfl (by kernel_rfl) rfl (by kernel_rfl) (fun w _ => by kernel_rfl) (trivial) ?_
      refine wd_end hL hR hK (by kernel_rfl) ?_
      refine qw_block ?_
      refine qw_then ?_
      refine cw_clean [2, 3, 9, 10, 11, 12] (ws' := [(2, .int .i64 (i2 : Int)), (3, .int .u8 (((UInt8.toNat b3 : Nat) : Int) : Int)), (9, .bool true), (10, .slice (some ⟨b9, o9, none⟩) n0 c0), (11, .slice (some ⟨g70, 0, none⟩) (n9 + 3) cap71), (12, .int .i64 (((i : Nat) : Int) : Int))]) (by kernel_rfl) (fun L => ?_)
      refine cw_plain ?_
      refine pl_take (.int .i64 (((i : Nat) : Int) : Int)) rfl (by kernel_rfl) (by kernel_rfl) (by kernel_rfl) (by kernel_rfl) ?_
      refine pl_take (.int .i64 (((i + 1 : Nat) : Int) : Int)) rfl (by kernel_rfl) (by kernel_rfl) (by kernel_rfl) (ev_wrap (by kernel_rfl) (by omega) (by omega)) ?_
      refine pl_take (.int .i64 (((i + 1 : Nat) : Int) : Int)) rfl (by kernel_rfl) (by kernel_rfl) (by kernel_rfl) (by kernel_rfl) ?_
      refine pl_nil ?_
      refine qw_round [2, 3, 9, 10, 11, 12] (ws' := [(2, .int .i64 (i2 : Int)), (3, .int .u8 (((UInt8.toNat b3 : Nat) : Int) : Int)), (9, .bool true), (10, .slice (some ⟨b9, o9, none⟩) n0 c0), (11, .slice (some ⟨g70, 0, none⟩) (n9 + 3) cap71), (12, .int .i64 (((i + 1 : Nat) : Int) : Int))]) (by kernel_rfl) _ ?_ ⟨(i + 1), g70, (n9 + 3), cap71, (l9 ++ [s63, ByteArray.extract (Rep.encR (recN (LL 0) i)) 0 (Rep.pk i2 (ByteArray.size (Rep.encR (recN (LL 0) i)))), (Rep.encR (recN (LL 0) i)) ++ (⟨#[120]⟩)]), rfl, rfl, (Nat.le_trans hs10 (Nat.le_trans hs14 (Nat.le_trans hs16 (Nat.le_trans hs19 (Nat.le_trans hs22 (Nat.le_trans hs24 (Nat.le_trans hs32 (Nat.le_trans hs34 (Nat.le_trans hs37 (Nat.le_trans hs39 (Nat.le_trans hs62 (Nat.le_trans hs68 hs77)))))))))))), hE, hX5, own74, by omega, by omega, (by rw [List.length_append, hl9]; rfl), (fun s hs => by rcases List.mem_append.1 hs with h | h; exact hall s h; simp only [List.mem_cons, List.not_mem_nil, or_false] at h; rcases h with rfl | rfl | rfl; omega; omega; omega)⟩
      omega
  ·
    refine cw_seq ?_
    refine cw_seq ?_
    refine cw_plain ?_
    refine pl_take (.int .i64 (((i : Nat) : Int) : Int)) rfl (by kernel_rfl) (by kernel_rfl) (by kernel_rfl) (by kernel_rfl) ?_
    refine pl_take (.slice a0 n0 c0) rfl (by kernel_rfl) (by kernel_rfl) (by kernel_rfl) (by kernel_rfl) ?_
    refine pl_take (.int .i64 (((n0 : Nat) : Int) : Int)) rfl (by kernel_rfl) (by kernel_rfl) (by kernel_rfl) (by kernel_rfl) ?_
    refine pl_take (.bool false) rfl (by kernel_rfl) (by kernel_rfl) (by kernel_rfl) (ev_ndec (show _ = Result.ok (Next.value (Value.bool (decide ((((i : Nat) : Int) : Int) < (((n0 : Nat) : Int) : Int))))) _ from by kernel_rfl) (by omega)) ?_
    refine pl_nil ?_
    refine qw_then ?_
    refine cw_f (by kernel_rfl) ?_
    refine cw_exit ?_
    refine qw_then_exit ?_
    refine qw_then_exit ?_
    refine qw_block_out ?_
    refine qw_then ?_
    refine cw_seq ?_
    refine cw_seq ?_
    refine cw_plain ?_
    refine pl_take (.int .i64 0) rfl (by kernel_rfl) (by kernel_rfl) (by kernel_rfl) (by kernel_rfl) ?_
    refine pl_nil ?_
    refine qw_then ?_
    refine cw_block ?_
    have hSt := own_strs ow9 hl9 hall
    have hX82 : Ext w11 w11 := Ext.refl _
    refine cw_loop [9, 11, 18] (fun ws' wr m => ∃ j : Nat, ws' = [(9, .bool true), (11, .slice (some ⟨g9, 0, none⟩) n9 c9), (18, .int .i64 (((j : Nat) : Int) : Int))] ∧ m = n9 - j ∧ w11.heap.size ≤ wr.heap.size ∧ Ext w wr ∧ Ext w3 wr ∧ Ext w11 wr ∧ j ≤ n9) (ws0 := [(9, .bool true), (11, .slice (some ⟨g9, 0, none⟩) n9 c9), (18, .int .i64 0)]) (by kernel_rfl) _ ⟨0, rfl, rfl, Nat.le_refl _, hE, hX5, hX82, Nat.zero_le _⟩ ?_
    clear hE hX5 hX82
    rintro m85 L ws w84 ⟨j, rfl, rfl, hs83, hE, hX5, hX82, hj⟩
    by_cases hlt : j < n9
    ·
      obtain ⟨sj, hsj, hsz⟩ := hSt j (by omega)
      have hg9l : g9 < w11.heap.size := World.block_lt_of_cell? _ _ hsj
      refine cw_seq ?_
      refine cw_seq ?_
      refine cw_plain ?_
      refine pl_take (.int .i64 (((j : Nat) : Int) : Int)) rfl (by kernel_rfl) (by kernel_rfl) (by kernel_rfl) (by kernel_rfl) ?_
      refine pl_take (.slice (some ⟨g9, 0, none⟩) n9 c9) rfl (by kernel_rfl) (by kernel_rfl) (by kernel_rfl) (by kernel_rfl) ?_
      refine pl_take (.int .i64 (((n9 : Nat) : Int) : Int)) rfl (by kernel_rfl) (by kernel_rfl) (by kernel_rfl) (by kernel_rfl) ?_
      refine pl_take (.bool true) rfl (by kernel_rfl) (by kernel_rfl) (by kernel_rfl) (ev_dec (show _ = Result.ok (Next.value (Value.bool (decide ((((j : Nat) : Int) : Int) < (((n9 : Nat) : Int) : Int))))) _ from by kernel_rfl) (by omega)) ?_
      refine pl_nil ?_
      refine qw_then ?_
      refine cw_t (by kernel_rfl) ?_
      refine cw_skip ?_
      refine qw_then ?_
      refine cw_seq ?_
      refine cw_block ?_
      refine cw_seq ?_
      rcases hdj : Rep.decR sj with _ | xj
      ·
        refine cw_plain ?_
        refine pl_take (.slice (some ⟨g9, 0, none⟩) n9 c9) rfl (by kernel_rfl) (by kernel_rfl) (by kernel_rfl) (by kernel_rfl) ?_
        refine pl_take (.int .i64 (((j : Nat) : Int) : Int)) rfl (by kernel_rfl) (by kernel_rfl) (by kernel_rfl) (by kernel_rfl) ?_
        refine pl_take (.pointer (some ⟨g9, j, none⟩)) rfl (by kernel_rfl) (by kernel_rfl) (by kernel_rfl) (ex_index (p := .slice (some ⟨g9, 0, none⟩) n9 c9) (i := .int .i64 ((j : Nat) : Int)) rfl (by kernel_rfl) (by kernel_rfl) (ix62z (k := j) (by omega))) ?_
        refine pl_take (.string sj) rfl (by kernel_rfl) (by kernel_rfl) (by kernel_rfl) (ex_load rfl (by kernel_rfl) (ld9 ((hX82.cell hsj)))) ?_
        refine pl_step rfl (by kernel_rfl) (by kernel_rfl) (by kernel_rfl) (sn_call (f := 35) (args := #[.string sj]) (by kernel_rfl) ((Decode_n _ (by omega) (hRl.ext hE) hdj).mono ?_))
        rintro e w86 ⟨rfl, hb⟩
        replace hE := hE.trans hb
        replace hX5 := hX5.trans hb
        replace hX82 := hX82.trans hb
        have hs87 := hb.size
        clear hb
        refine ⟨_, rfl, ?_⟩
        refine pl_take (.tuple #[.agg #[.int .i64 0, .int .i64 0, .int .i64 0, .int .i64 0, .int .i64 0, .int .i64 0, .string (⟨#[]⟩)], .int .i64 350]) rfl (by kernel_rfl) (by kernel_rfl) (by kernel_rfl) (by kernel_rfl) ?_
        refine pl_take (.agg #[.int .i64 0, .int .i64 0, .int .i64 0, .int .i64 0, .int .i64 0, .int .i64 0, .string (⟨#[]⟩)]) rfl (by kernel_rfl) (by kernel_rfl) (by kernel_rfl) (by kernel_rfl) ?_
        refine pl_take (.int .i64 350) rfl (by kernel_rfl) (by kernel_rfl) (by kernel_rfl) (by kernel_rfl) ?_
        refine pl_step rfl (by kernel_rfl) (by kernel_rfl) (by kernel_rfl) (sn_new (us := #[.int .i64 0, .int .i64 0, .int .i64 0, .int .i64 0, .int .i64 0, .int .i64 0, .string (⟨#[]⟩)]) (t := 49) (by kernel_rfl) ?_)
        intro O88 X89 hO hOs hb hbx
        have hzO88 := hO; have hyO88 := hOs; clear hO hOs
        have bO88_0 : BoxAt X89 O88 0 (.int .i64 0) := hbx 0 _ rfl
        have bO88_1 : BoxAt X89 O88 1 (.int .i64 0) := hbx 1 _ rfl
        have bO88_2 : BoxAt X89 O88 2 (.int .i64 0) := hbx 2 _ rfl
        have bO88_3 : BoxAt X89 O88 3 (.int .i64 0) := hbx 3 _ rfl
        have bO88_4 : BoxAt X89 O88 4 (.int .i64 0) := hbx 4 _ rfl
        have bO88_5 : BoxAt X89 O88 5 (.int .i64 0) := hbx 5 _ rfl
        have bO88_6 : BoxAt X89 O88 6 (.string (⟨#[]⟩)) := hbx 6 _ rfl
        clear hbx
        replace hE := hE.trans hb
        replace hX5 := hX5.trans hb
        replace hX82 := hX82.trans hb
        have hs90 := hb.size
        clear hb
        have lt91 := bO88_0.lt
        refine pl_put rfl (by kernel_rfl) (by kernel_rfl) (sn_setK7 (O := O88) (j := 0) (v0 := .int .i64 0) (v1 := .int .i64 0) (v2 := .int .i64 0) (v3 := .int .i64 0) (v4 := .int .i64 0) (v5 := .int .i64 0) (v6 := .string (⟨#[]⟩)) (ex_store (p := .pointer (some ⟨O88, 0, none⟩)) (v := .agg #[.int .i64 0, .int .i64 0, .int .i64 0, .int .i64 0, .int .i64 0, .int .i64 0, .string (⟨#[]⟩)]) rfl (by kernel_rfl) (by kernel_rfl) (st49 bO88_0.1 bO88_0.2 bO88_1.1 bO88_1.2 bO88_2.1 bO88_2.2 bO88_3.1 bO88_3.2 bO88_4.1 bO88_4.2 bO88_5.1 bO88_5.2 bO88_6.1 bO88_6.2)) bO88_0 bO88_1 bO88_2 bO88_3 bO88_4 bO88_5 bO88_6 ?_)
        intro X92 ho hv0 hv1 hv2 hv3 hv4 hv5 hv6 hk
        replace hE := ho.ext hE (Nat.le_trans (Nat.le_trans hs2 (Nat.le_trans hs4 (Nat.le_trans hs8 (Nat.le_trans hs10 (Nat.le_trans hs83 hs87))))) (Nat.le_of_eq hzO88))
        replace hX5 := ho.ext hX5 (Nat.le_trans (Nat.le_trans hs8 (Nat.le_trans hs10 (Nat.le_trans hs83 hs87))) (Nat.le_of_eq hzO88))
        replace hX82 := ho.ext hX82 (Nat.le_trans (Nat.le_trans hs83 hs87) (Nat.le_of_eq hzO88))
        have hs93 : X89.heap.size ≤ X92.heap.size := Nat.le_of_eq ho.size.symm
        clear ho hk bO88_0 bO88_1 bO88_2 bO88_3 bO88_4 bO88_5 bO88_6
        have bO88_0 := hv0; clear hv0
        have bO88_1 := hv1; clear hv1
        have bO88_2 := hv2; clear hv2
        have bO88_3 := hv3; clear hv3
        have bO88_4 := hv4; clear hv4
        have bO88_5 := hv5; clear hv5
        have bO88_6 := hv6; clear hv6
        refine pl_take (.int .i64 350) rfl (by kernel_rfl) (by kernel_rfl) (by kernel_rfl) (by kernel_rfl) ?_
        refine pl_nil ?_
        refine qw_then ?_
        refine cw_clean [9, 11, 18, 19, 20] (ws' := [(9, .bool true), (11, .slice (some ⟨g9, 0, none⟩) n9 c9), (18, .int .i64 (((j : Nat) : Int) : Int)), (19, .pointer (some ⟨O88, 0, none⟩)), (20, .int .i64 350)]) (by kernel_rfl) (fun L => ?_)
        refine cw_seq ?_
        refine cw_plain ?_
        refine pl_take (.agg #[.int .i64 0, .int .i64 0, .int .i64 0, .int .i64 0, .int .i64 0, .int .i64 0, .string (⟨#[]⟩)]) rfl (by kernel_rfl) (by kernel_rfl) (by kernel_rfl) (ex_load rfl (by kernel_rfl) (ld49 (bO88_0.1) (bO88_1.1) (bO88_2.1) (bO88_3.1) (bO88_4.1) (bO88_5.1) (bO88_6.1))) ?_
        refine pl_step rfl (by kernel_rfl) (by kernel_rfl) (by kernel_rfl) (sn_call (f := 31) (args := #[.agg #[.int .i64 0, .int .i64 0, .int .i64 0, .int .i64 0, .int .i64 0, .int .i64 0, .string (⟨#[]⟩)]]) (by kernel_rfl) ((Encode_n (x := (⟨0, 0, 0, 0, 0, 0, ⟨#[]⟩⟩ : Rec)) _ (hRl.ext hE) (by kernel_rfl)).mono ?_))
        rintro e w94 ⟨rfl, hb⟩
        replace hE := hE.trans hb
        replace hX5 := hX5.trans hb
        replace hX82 := hX82.trans hb
        replace bO88_0 := BoxAt.ext hb bO88_0
        replace bO88_1 := BoxAt.ext hb bO88_1
        replace bO88_2 := BoxAt.ext hb bO88_2
        replace bO88_3 := BoxAt.ext hb bO88_3
        replace bO88_4 := BoxAt.ext hb bO88_4
        replace bO88_5 := BoxAt.ext hb bO88_5
        replace bO88_6 := BoxAt.ext hb bO88_6
        have hs95 := hb.size
        clear hb
        refine ⟨_, rfl, ?_⟩
        refine pl_take (.tuple #[.string (⟨#[]⟩), .int .i64 350]) rfl (by kernel_rfl) (by kernel_rfl) (by kernel_rfl) (by kernel_rfl) ?_
        refine pl_take (.string (⟨#[]⟩)) rfl (by kernel_rfl) (by kernel_rfl) (by kernel_rfl) (by kernel_rfl) ?_
        refine pl_take (.int .i64 350) rfl (by kernel_rfl) (by kernel_rfl) (by kernel_rfl) (by kernel_rfl) ?_
        refine pl_take (.string (⟨#[]⟩)) rfl (by kernel_rfl) (by kernel_rfl) (by kernel_rfl) (by kernel_rfl) ?_
        refine pl_take (.int .i64 350) rfl (by kernel_rfl) (by kernel_rfl) (by kernel_rfl) (by kernel_rfl) ?_
        refine pl_nil ?_
        refine qw_then ?_
        refine cw_seq ?_
        refine cw_plain ?_
        refine pl_take (.int .i64 350) rfl (by kernel_rfl) (by kernel_rfl) (by kernel_rfl) (by kernel_rfl) ?_
        refine pl_take (.bool false) rfl (by kernel_rfl) (by kernel_rfl) (by kernel_rfl) (by kernel_rfl) ?_
        refine pl_take (.bool false) rfl (by kernel_rfl) (by kernel_rfl) (by kernel_rfl) (by kernel_rfl) ?_
        refine pl_skip rfl (by kernel_rfl) (by kernel_rfl) (by kernel_rfl) ?_
        refine pl_skip rfl (by kernel_rfl) (by kernel_rfl) (by kernel_rfl) ?_
        refine pl_skip rfl (by kernel_rfl) (by kernel_rfl) (by kernel_rfl) ?_
        refine pl_skip rfl (by kernel_rfl) (by kernel_rfl) (by kernel_rfl) ?_
        refine pl_skip rfl (by kernel_rfl) (by kernel_rfl) (by kernel_rfl) ?_
        refine pl_skip rfl (by kernel_rfl) (by kernel_rfl) (by kernel_rfl) ?_
        refine pl_skip rfl (by kernel_rfl) (by kernel_rfl) (by kernel_rfl) ?_
        refine pl_skip rfl (by kernel_rfl) (by kernel_rfl) (by kernel_rfl) ?_
        refine pl_skip rfl (by kernel_rfl) (by kernel_rfl) (by kernel_rfl) ?_
        refine pl_skip rfl (by kernel_rfl) (by kernel_rfl) (by kernel_rfl) ?_
        refine pl_take (.bool false) rfl (by kernel_rfl) (by kernel_rfl) (by kernel_rfl) (by kernel_rfl) ?_
        refine pl_take (.bool false) rfl (by kernel_rfl) (by kernel_rfl) (by kernel_rfl) (by kernel_rfl) ?_
        refine pl_take (.int .i64 350) rfl (by kernel_rfl) (by kernel_rfl) (by kernel_rfl) (by kernel_rfl) ?_
        refine pl_take (.bool true) rfl (by kernel_rfl) (by kernel_rfl) (by kernel_rfl) (by kernel_rfl) ?_
        refine pl_take (.bool true) rfl (by kernel_rfl) (by kernel_rfl) (by kernel_rfl) (by kernel_rfl) ?_
        refine pl_take (.int .i64 350) rfl (by kernel_rfl) (by kernel_rfl) (by kernel_rfl) (by kernel_rfl) ?_
        refine pl_take (.bool false) rfl (by kernel_rfl) (by kernel_rfl) (by kernel_rfl) (by kernel_rfl) ?_
        refine pl_take (.bool false) rfl (by kernel_rfl) (by kernel_rfl) (by kernel_rfl) (by kernel_rfl) ?_
        refine pl_take (.bool false) rfl (by kernel_rfl) (by kernel_rfl) (by kernel_rfl) (by kernel_rfl) ?_
        refine pl_nil ?_
        refine qw_then ?_
        refine cw_clean [9, 11, 18, 137] (ws' := [(9, .bool true), (11, .slice (some ⟨g9, 0, none⟩) n9 c9), (18, .int .i64 (((j : Nat) : Int) : Int)), (137, .bool false)]) (by kernel_rfl) (fun L => ?_)
        refine cw_f (by kernel_rfl) ?_
        refine cw_skip ?_
        refine qw_block ?_
        refine qw_then ?_
        refine cw_plain ?_
        refine pl_take (.int .i64 (((j : Nat) : Int) : Int)) rfl (by kernel_rfl) (by kernel_rfl) (by kernel_rfl) (by kernel_rfl) ?_
        refine pl_take (.int .i64 (((j + 1 : Nat) : Int) : Int)) rfl (by kernel_rfl) (by kernel_rfl) (by kernel_rfl) (ev_wrap (by kernel_rfl) (by omega) (by omega)) ?_
        refine pl_take (.int .i64 (((j + 1 : Nat) : Int) : Int)) rfl (by kernel_rfl) (by kernel_rfl) (by kernel_rfl) (by kernel_rfl) ?_
        refine pl_nil ?_
        refine qw_round [9, 11, 18] (ws' := [(9, .bool true), (11, .slice (some ⟨g9, 0, none⟩) n9 c9), (18, .int .i64 (((j + 1 : Nat) : Int) : Int))]) (by kernel_rfl) _ ?_ ⟨(j + 1), rfl, rfl, (Nat.le_trans hs83 (Nat.le_trans hs87 (Nat.le_trans hs90 (Nat.le_trans hs93 hs95)))), hE, hX5, hX82, by omega⟩
        omega
      ·
        have hde := Rep.dec_enc hdj
        refine cw_plain ?_
        refine pl_take (.slice (some ⟨g9, 0, none⟩) n9 c9) rfl (by kernel_rfl) (by kernel_rfl) (by kernel_rfl) (by kernel_rfl) ?_
        refine pl_take (.int .i64 (((j : Nat) : Int) : Int)) rfl (by kernel_rfl) (by kernel_rfl) (by kernel_rfl) (by kernel_rfl) ?_
        refine pl_take (.pointer (some ⟨g9, j, none⟩)) rfl (by kernel_rfl) (by kernel_rfl) (by kernel_rfl) (ex_index (p := .slice (some ⟨g9, 0, none⟩) n9 c9) (i := .int .i64 ((j : Nat) : Int)) rfl (by kernel_rfl) (by kernel_rfl) (ix62z (k := j) (by omega))) ?_
        refine pl_take (.string sj) rfl (by kernel_rfl) (by kernel_rfl) (by kernel_rfl) (ex_load rfl (by kernel_rfl) (ld9 ((hX82.cell hsj)))) ?_
        refine pl_step rfl (by kernel_rfl) (by kernel_rfl) (by kernel_rfl) (sn_call (f := 35) (args := #[.string sj]) (by kernel_rfl) ((Decode_y (x := xj) _ (by omega) (hRl.ext hE) hdj).mono ?_))
        rintro e w96 ⟨rfl, hb⟩
        replace hE := hE.trans hb
        replace hX5 := hX5.trans hb
        replace hX82 := hX82.trans hb
        have hs97 := hb.size
        clear hb
        refine ⟨_, rfl, ?_⟩
        refine pl_take (.tuple #[.agg #[.int .i64 (xj.c : Int), .int .i64 (xj.n : Int), .int .i64 (xj.t : Int), .int .i64 (xj.o : Int), .int .i64 (xj.w : Int), .int .i64 (xj.k : Int), .string xj.x], .int .i64 0]) rfl (by kernel_rfl) (by kernel_rfl) (by kernel_rfl) (by kernel_rfl) ?_
        refine pl_take (.agg #[.int .i64 (xj.c : Int), .int .i64 (xj.n : Int), .int .i64 (xj.t : Int), .int .i64 (xj.o : Int), .int .i64 (xj.w : Int), .int .i64 (xj.k : Int), .string xj.x]) rfl (by kernel_rfl) (by kernel_rfl) (by kernel_rfl) (by kernel_rfl) ?_
        refine pl_take (.int .i64 0) rfl (by kernel_rfl) (by kernel_rfl) (by kernel_rfl) (by kernel_rfl) ?_
        refine pl_step rfl (by kernel_rfl) (by kernel_rfl) (by kernel_rfl) (sn_new (us := #[.int .i64 0, .int .i64 0, .int .i64 0, .int .i64 0, .int .i64 0, .int .i64 0, .string (⟨#[]⟩)]) (t := 49) (by kernel_rfl) ?_)
        intro O98 X99 hO hOs hb hbx
        have hzO98 := hO; have hyO98 := hOs; clear hO hOs
        have bO98_0 : BoxAt X99 O98 0 (.int .i64 0) := hbx 0 _ rfl
        have bO98_1 : BoxAt X99 O98 1 (.int .i64 0) := hbx 1 _ rfl
        have bO98_2 : BoxAt X99 O98 2 (.int .i64 0) := hbx 2 _ rfl
        have bO98_3 : BoxAt X99 O98 3 (.int .i64 0) := hbx 3 _ rfl
        have bO98_4 : BoxAt X99 O98 4 (.int .i64 0) := hbx 4 _ rfl
        have bO98_5 : BoxAt X99 O98 5 (.int .i64 0) := hbx 5 _ rfl
        have bO98_6 : BoxAt X99 O98 6 (.string (⟨#[]⟩)) := hbx 6 _ rfl
        clear hbx
        replace hE := hE.trans hb
        replace hX5 := hX5.trans hb
        replace hX82 := hX82.trans hb
        have hs100 := hb.size
        clear hb
        have lt101 := bO98_0.lt
        refine pl_put rfl (by kernel_rfl) (by kernel_rfl) (sn_setK7 (O := O98) (j := 0) (v0 := .int .i64 (xj.c : Int)) (v1 := .int .i64 (xj.n : Int)) (v2 := .int .i64 (xj.t : Int)) (v3 := .int .i64 (xj.o : Int)) (v4 := .int .i64 (xj.w : Int)) (v5 := .int .i64 (xj.k : Int)) (v6 := .string xj.x) (ex_store (p := .pointer (some ⟨O98, 0, none⟩)) (v := .agg #[.int .i64 (xj.c : Int), .int .i64 (xj.n : Int), .int .i64 (xj.t : Int), .int .i64 (xj.o : Int), .int .i64 (xj.w : Int), .int .i64 (xj.k : Int), .string xj.x]) rfl (by kernel_rfl) (by kernel_rfl) (st49 bO98_0.1 bO98_0.2 bO98_1.1 bO98_1.2 bO98_2.1 bO98_2.2 bO98_3.1 bO98_3.2 bO98_4.1 bO98_4.2 bO98_5.1 bO98_5.2 bO98_6.1 bO98_6.2)) bO98_0 bO98_1 bO98_2 bO98_3 bO98_4 bO98_5 bO98_6 ?_)
        intro X102 ho hv0 hv1 hv2 hv3 hv4 hv5 hv6 hk
        replace hE := ho.ext hE (Nat.le_trans (Nat.le_trans hs2 (Nat.le_trans hs4 (Nat.le_trans hs8 (Nat.le_trans hs10 (Nat.le_trans hs83 hs97))))) (Nat.le_of_eq hzO98))
        replace hX5 := ho.ext hX5 (Nat.le_trans (Nat.le_trans hs8 (Nat.le_trans hs10 (Nat.le_trans hs83 hs97))) (Nat.le_of_eq hzO98))
        replace hX82 := ho.ext hX82 (Nat.le_trans (Nat.le_trans hs83 hs97) (Nat.le_of_eq hzO98))
        have hs103 : X99.heap.size ≤ X102.heap.size := Nat.le_of_eq ho.size.symm
        clear ho hk bO98_0 bO98_1 bO98_2 bO98_3 bO98_4 bO98_5 bO98_6
        have bO98_0 := hv0; clear hv0
        have bO98_1 := hv1; clear hv1
        have bO98_2 := hv2; clear hv2
        have bO98_3 := hv3; clear hv3
        have bO98_4 := hv4; clear hv4
        have bO98_5 := hv5; clear hv5
        have bO98_6 := hv6; clear hv6
        refine pl_take (.int .i64 0) rfl (by kernel_rfl) (by kernel_rfl) (by kernel_rfl) (by kernel_rfl) ?_
        refine pl_nil ?_
        refine qw_then ?_
        refine cw_clean [9, 11, 18, 19, 20] (ws' := [(9, .bool true), (11, .slice (some ⟨g9, 0, none⟩) n9 c9), (18, .int .i64 (((j : Nat) : Int) : Int)), (19, .pointer (some ⟨O98, 0, none⟩)), (20, .int .i64 0)]) (by kernel_rfl) (fun L => ?_)
        refine cw_seq ?_
        refine cw_plain ?_
        refine pl_take (.agg #[.int .i64 (xj.c : Int), .int .i64 (xj.n : Int), .int .i64 (xj.t : Int), .int .i64 (xj.o : Int), .int .i64 (xj.w : Int), .int .i64 (xj.k : Int), .string xj.x]) rfl (by kernel_rfl) (by kernel_rfl) (by kernel_rfl) (ex_load rfl (by kernel_rfl) (ld49 (bO98_0.1) (bO98_1.1) (bO98_2.1) (bO98_3.1) (bO98_4.1) (bO98_5.1) (bO98_6.1))) ?_
        refine pl_step rfl (by kernel_rfl) (by kernel_rfl) (by kernel_rfl) (sn_call (f := 31) (args := #[.agg #[.int .i64 (xj.c : Int), .int .i64 (xj.n : Int), .int .i64 (xj.t : Int), .int .i64 (xj.o : Int), .int .i64 (xj.w : Int), .int .i64 (xj.k : Int), .string xj.x]]) (by kernel_rfl) ((Encode_y (x := xj) _ (hRl.ext hE) hde.1).mono ?_))
        rintro e w104 ⟨rfl, hb⟩
        replace hE := hE.trans hb
        replace hX5 := hX5.trans hb
        replace hX82 := hX82.trans hb
        replace bO98_0 := BoxAt.ext hb bO98_0
        replace bO98_1 := BoxAt.ext hb bO98_1
        replace bO98_2 := BoxAt.ext hb bO98_2
        replace bO98_3 := BoxAt.ext hb bO98_3
        replace bO98_4 := BoxAt.ext hb bO98_4
        replace bO98_5 := BoxAt.ext hb bO98_5
        replace bO98_6 := BoxAt.ext hb bO98_6
        have hs105 := hb.size
        clear hb
        refine ⟨_, rfl, ?_⟩
        refine pl_take (.tuple #[.string (Rep.encR xj), .int .i64 0]) rfl (by kernel_rfl) (by kernel_rfl) (by kernel_rfl) (by kernel_rfl) ?_
        refine pl_take (.string (Rep.encR xj)) rfl (by kernel_rfl) (by kernel_rfl) (by kernel_rfl) (by kernel_rfl) ?_
        refine pl_take (.int .i64 0) rfl (by kernel_rfl) (by kernel_rfl) (by kernel_rfl) (by kernel_rfl) ?_
        refine pl_take (.string (Rep.encR xj)) rfl (by kernel_rfl) (by kernel_rfl) (by kernel_rfl) (by kernel_rfl) ?_
        refine pl_take (.int .i64 0) rfl (by kernel_rfl) (by kernel_rfl) (by kernel_rfl) (by kernel_rfl) ?_
        refine pl_nil ?_
        refine qw_then ?_
        refine cw_seq ?_
        refine cw_plain ?_
        refine pl_take (.int .i64 0) rfl (by kernel_rfl) (by kernel_rfl) (by kernel_rfl) (by kernel_rfl) ?_
        refine pl_take (.bool true) rfl (by kernel_rfl) (by kernel_rfl) (by kernel_rfl) (by kernel_rfl) ?_
        refine pl_take (.bool true) rfl (by kernel_rfl) (by kernel_rfl) (by kernel_rfl) (by kernel_rfl) ?_
        refine pl_take (.int .i64 0) rfl (by kernel_rfl) (by kernel_rfl) (by kernel_rfl) (by kernel_rfl) ?_
        refine pl_take (.bool false) rfl (by kernel_rfl) (by kernel_rfl) (by kernel_rfl) (by kernel_rfl) ?_
        refine pl_take (.bool false) rfl (by kernel_rfl) (by kernel_rfl) (by kernel_rfl) (by kernel_rfl) ?_
        refine pl_take (.string (Rep.encR xj)) rfl (by kernel_rfl) (by kernel_rfl) (by kernel_rfl) (by kernel_rfl) ?_
        refine pl_take (.slice (some ⟨g9, 0, none⟩) n9 c9) rfl (by kernel_rfl) (by kernel_rfl) (by kernel_rfl) (by kernel_rfl) ?_
        refine pl_take (.int .i64 (((j : Nat) : Int) : Int)) rfl (by kernel_rfl) (by kernel_rfl) (by kernel_rfl) (by kernel_rfl) ?_
        refine pl_take (.pointer (some ⟨g9, j, none⟩)) rfl (by kernel_rfl) (by kernel_rfl) (by kernel_rfl) (ex_index (p := .slice (some ⟨g9, 0, none⟩) n9 c9) (i := .int .i64 ((j : Nat) : Int)) rfl (by kernel_rfl) (by kernel_rfl) (ix62z (k := j) (by omega))) ?_
        refine pl_take (.string sj) rfl (by kernel_rfl) (by kernel_rfl) (by kernel_rfl) (ex_load rfl (by kernel_rfl) (ld9 ((hX82.cell hsj)))) ?_
        refine pl_take (.bool false) rfl (by kernel_rfl) (by kernel_rfl) (by kernel_rfl) (ex_binV (a := .string (Rep.encR xj)) (b := .string sj) rfl (by kernel_rfl) (by kernel_rfl) eqG_str (bin_nqs_t hde.2)) ?_
        refine pl_take (.bool false) rfl (by kernel_rfl) (by kernel_rfl) (by kernel_rfl) (by kernel_rfl) ?_
        refine pl_take (.bool false) rfl (by kernel_rfl) (by kernel_rfl) (by kernel_rfl) (by kernel_rfl) ?_
        refine pl_take (.bool false) rfl (by kernel_rfl) (by kernel_rfl) (by kernel_rfl) (by kernel_rfl) ?_
        refine pl_take (.int .i64 0) rfl (by kernel_rfl) (by kernel_rfl) (by kernel_rfl) (by kernel_rfl) ?_
        refine pl_take (.bool false) rfl (by kernel_rfl) (by kernel_rfl) (by kernel_rfl) (by kernel_rfl) ?_
        refine pl_take (.bool false) rfl (by kernel_rfl) (by kernel_rfl) (by kernel_rfl) (by kernel_rfl) ?_
        refine pl_skip rfl (by kernel_rfl) (by kernel_rfl) (by kernel_rfl) ?_
        refine pl_skip rfl (by kernel_rfl) (by kernel_rfl) (by kernel_rfl) ?_
        refine pl_take (.bool false) rfl (by kernel_rfl) (by kernel_rfl) (by kernel_rfl) (by kernel_rfl) ?_
        refine pl_take (.bool false) rfl (by kernel_rfl) (by kernel_rfl) (by kernel_rfl) (by kernel_rfl) ?_
        refine pl_nil ?_
        refine qw_then ?_
        refine cw_clean [9, 11, 18, 137] (ws' := [(9, .bool true), (11, .slice (some ⟨g9, 0, none⟩) n9 c9), (18, .int .i64 (((j : Nat) : Int) : Int)), (137, .bool false)]) (by kernel_rfl) (fun L => ?_)
        refine cw_f (by kernel_rfl) ?_
        refine cw_skip ?_
        refine qw_block ?_
        refine qw_then ?_
        refine cw_plain ?_
        refine pl_take (.int .i64 (((j : Nat) : Int) : Int)) rfl (by kernel_rfl) (by kernel_rfl) (by kernel_rfl) (by kernel_rfl) ?_
        refine pl_take (.int .i64 (((j + 1 : Nat) : Int) : Int)) rfl (by kernel_rfl) (by kernel_rfl) (by kernel_rfl) (ev_wrap (by kernel_rfl) (by omega) (by omega)) ?_
        refine pl_take (.int .i64 (((j + 1 : Nat) : Int) : Int)) rfl (by kernel_rfl) (by kernel_rfl) (by kernel_rfl) (by kernel_rfl) ?_
        refine pl_nil ?_
        refine qw_round [9, 11, 18] (ws' := [(9, .bool true), (11, .slice (some ⟨g9, 0, none⟩) n9 c9), (18, .int .i64 (((j + 1 : Nat) : Int) : Int))]) (by kernel_rfl) _ ?_ ⟨(j + 1), rfl, rfl, (Nat.le_trans hs83 (Nat.le_trans hs97 (Nat.le_trans hs100 (Nat.le_trans hs103 hs105)))), hE, hX5, hX82, by omega⟩
        omega
    ·
      refine cw_seq ?_
      refine cw_seq ?_
      refine cw_plain ?_
      refine pl_take (.int .i64 (((j : Nat) : Int) : Int)) rfl (by kernel_rfl) (by kernel_rfl) (by kernel_rfl) (by kernel_rfl) ?_
      refine pl_take (.slice (some ⟨g9, 0, none⟩) n9 c9) rfl (by kernel_rfl) (by kernel_rfl) (by kernel_rfl) (by kernel_rfl) ?_
      refine pl_take (.int .i64 (((n9 : Nat) : Int) : Int)) rfl (by kernel_rfl) (by kernel_rfl) (by kernel_rfl) (by kernel_rfl) ?_
      refine pl_take (.bool false) rfl (by kernel_rfl) (by kernel_rfl) (by kernel_rfl) (ev_ndec (show _ = Result.ok (Next.value (Value.bool (decide ((((j : Nat) : Int) : Int) < (((n9 : Nat) : Int) : Int))))) _ from by kernel_rfl) (by omega)) ?_
      refine pl_nil ?_
      refine qw_then ?_
      refine cw_f (by kernel_rfl) ?_
      refine cw_exit ?_
      refine qw_then_exit ?_
      refine qw_then_exit ?_
      refine qw_block_out ?_
      refine qw_then ?_
      refine cw_seq ?_
      refine cw_plain ?_
      refine pl_take (.bool true) rfl (by kernel_rfl) (by kernel_rfl) (by kernel_rfl) (by kernel_rfl) ?_
      refine pl_take (.bool true) rfl (by kernel_rfl) (by kernel_rfl) (by kernel_rfl) (by kernel_rfl) ?_
      refine pl_nil ?_
      refine qw_then ?_
      refine cw_ret ?_
      refine qw_ret [.bool true] rfl ⟨(by kernel_rfl), trivial⟩ ?_
      exact ⟨rfl, hE⟩

end Go.Proofs.YtfmoabgjaclkpaaGreatDoor

namespace Go.Proofs.YtfmoabgjaclkpaaGreatDoor
open Go.ChangeShapes Go.WideShapes Go.ChangeAt Go.RowKit
set_option maxRecDepth 100000 in
theorem ReplicaCode_lifted (os : Os) (started : os.Started) (H : Type) (enc : TypeId × Value → H) :
  ReturnsInHanded {} Tryz.checked os 9 .any (fun w args => (Rows.replicaCodeSpec.pre enc Tryz.prog Tryz.f9 [] false w args ∧ laidMetH Tryz.prog laidTabs w) ∧ sizedMet enc Tryz.prog Tryz.f9 (OpenSpec.ofChange Rows.replicaCodeSpec) false w args)
   (Rows.replicaCodeSpec.post enc Tryz.prog Tryz.f9 false true false false) := by
 refine returnsInHanded_of_change_and (C := Tryz.checked) (X := fun w _ => laidMetH Tryz.prog laidTabs w) (fun _ _ _ hh h => h.of_heap hh) own started (by kernel_rfl) Tryz.func9
  (ChangeSpec.witness_shaped (enc := enc) (C := Tryz.checked) (os := os) (X := fun w _ => laidMetH Tryz.prog laidTabs w) false (World.doorLaid Tryz.prog 19 os) #[.slice none 0 0, .string ⟨#[]⟩, .int .i64 0, .int .u8 0] 8 rfl (World.shaped_of_RefB (by kernel_rfl) (by kernel_rfl)) (by kernel_rfl) (by kernel_rfl) (by kernel_rfl) (door_met os _)) ?_
 intro W base args ds gs before hval0 hW _ hsz hL _
 have hval : ∀ (j : Nat) t v, Tryz.f9.params[j]? = some t → args[j]? = some v → Value.okWide Tryz.prog W .any base t v := hval0
 have hW' := hW
 obtain ⟨p, q, hA0, hV, rfl, hfz, hnd⟩ := hW
 have hA : DataW.TrodAll enc Tryz.prog W 0 (fun _ => true) true Tryz.f9.params.toList args.toList ds p := hA0
 rw [Tryz.params9] at hA hval
 obtain ⟨v0, vs0, d0, ds0, p0, q0, hargs, rfl, rfl, h0, r0⟩ := trodAll_cons hA
 obtain ⟨v1, vs1, d1, ds1, p1, q1, rfl, rfl, rfl, h1, r1⟩ := trodAll_cons r0
 obtain ⟨v2, vs2, d2, ds2, p2, q2, rfl, rfl, rfl, h2, r2⟩ := trodAll_cons r1
 obtain ⟨v3, vs3, d3, ds3, p3, q3, rfl, rfl, rfl, h3, r3⟩ := trodAll_cons r2
 obtain ⟨rfl, rfl, rfl⟩ := trodAll_nil r3
 obtain rfl : args = #[v0, v1, v2, v3] := by cases args; simp_all
 obtain ⟨rfl, rfl⟩ := trodVars_none hV
 have k0 := h0
 have lt0 : ∀ x ∈ p0, x.block < W.heap.size := by obtain ⟨m, hm⟩ := k0; exact DataW.trod_lt m _ _ _ hm
 have op0 := open_quads (hval 0 _ v0 rfl rfl) h0
 have k1 := h1
 have lt1 : ∀ x ∈ p1, x.block < W.heap.size := by obtain ⟨m, hm⟩ := k1; exact DataW.trod_lt m _ _ _ hm
 have op1 := open_text (hval 1 _ v1 rfl rfl) h1
 obtain ⟨a2, rfl, rfl, rfl, w2⟩ := open_int Tryz.underlying3 (hval 2 3 v2 rfl rfl) h2
 have k3 := h3
 have lt3 : ∀ x ∈ p3, x.block < W.heap.size := by obtain ⟨m, hm⟩ := k3; exact DataW.trod_lt m _ _ _ hm
 have op3 := open_byte (hval 3 _ v3 rfl rfl) h3
 clear hA0 hval0
 refine (ReplicaCode_walk W v0 op0 v1 op1 a2 (isI_of_wf w2) v3 op3 (tab_of_laid hL)).mono fun e W' ⟨he, hE⟩ => ?_
 subst he
 have bel : Below W.heap.size W W' := hE
 exact ⟨_, rfl, _, _, _, [], _, [], hW', trodAll_mk1 (shut_bool Tryz.underlying4 _), (trodAll_cons_mk (Below.trod laidOut (by kernel_rfl) (of_decide_eq_true (by kernel_rfl)) k0 bel lt0) (trodAll_cons_mk (Below.trod laidOut (by kernel_rfl) (of_decide_eq_true (by kernel_rfl)) k1 bel lt1) (trodAll_cons_mk (shut_int Tryz.underlying3 w2) (trodAll_cons_mk (Below.trod laidOut (by kernel_rfl) (of_decide_eq_true (by kernel_rfl)) k3 bel lt3) trodAll_mk0)))), rfl, bel.frame _, fun h => by cases h⟩
theorem ReplicaCode_over : Rows.ReplicaCodeSaid :=
 OpenClaim.holds_of_wide 9 Tryz.f9 rfl rfl rfl rfl rfl rfl rfl ⟨rfl, rfl, rfl, rfl, rfl⟩ rfl rfl rfl rfl rfl (by kernel_rfl) Tryz.func9 (by kernel_rfl)
  (of_decide_eq_true (by kernel_rfl)) (by unfold Func.isWrapper; first | (rw [if_pos (by decide +kernel)]; kernel_rfl) | (rw [if_neg (by decide +kernel)]; exact ⟨rfl, rfl⟩))
  (fun os started H enc _ => ReplicaCode_lifted os started H enc)
theorem ReplicaCode_holds : Rows.ReplicaCodeCardSaid :=
 Claim7.holds_tied_plain_at .later [] [.data] true (true, "f9bd7bf2428558407907bdf4a3d03e3e627b39690f181bd9906d008ddbe31a7e") false
  ReplicaCode_over (fun _ h => by cases h) (by kernel_rfl) (fun _ h => by cases h) replicaCode_row_tie rfl ⟨rfl, rfl⟩ (by kernel_rfl) rfl
  (fun f fn hf hfn => by
   obtain rfl : f = 9 := Option.some.inj ((show Tryz.prog.funcNamed "nadir/nadirlaw35.ReplicaCode" = some 9 by kernel_rfl).symm.trans hf) |>.symm
   obtain rfl : fn = Tryz.f9 := (Option.some.inj (Tryz.func9.symm.trans hfn)).symm
   exact ⟨by kernel_rfl, fun j t ht => by
    rw [Tryz.params9] at ht
    have hm : t ∈ [22, 9, 3, 5] := by simpa using Array.mem_of_getElem? ht
    have hall : ([22, 9, 3, 5].all fun u => !Tryz.prog.wantsStandIn u) = true := by kernel_rfl
    exact (show Tryz.prog.wantsStandIn t = false by simpa using List.all_eq_true.1 hall t hm)⟩)
  (by kernel_rfl)
#print axioms ReplicaCode_holds
end Go.Proofs.YtfmoabgjaclkpaaGreatDoor
