/- The statement ReplicaOrder: for every input that the row lists, the law returns true, and every argument reads as it read before. -/
import Derived.Test.YtfmoabgjaclkpaaGreatDoorV6ReplicaOrder
import Derived.Test.YtfmoabgjaclkpaaGreatDoorTie
import Derived.Test.YtfmoabgjaclkpaaGreatDoorCards
import Derived.ProofKit
import Derived.OpenShut
import Derived.ChangeOld
import Derived.LaidMore
import Derived.Stop.Joined
import Derived.Stop.LaidErr
import Derived.Lib.LaidTab
import Derived.SevenTiedAt
import Derived.Deep.Slices
import Derived.ChangeMaps5
namespace Go.Proofs.YtfmoabgjaclkpaaGreatDoor
set_option maxRecDepth 1000000
set_option maxHeartbeats 4000000
set_option synthInstance.maxHeartbeats 0
set_option synthInstance.maxSize 9999
open Go.RowKit
def Tz62_0 : List Row := [(some 187, [29], []), (some 188, [187], [0]), (some 189, [26, 188], [1]), (some 190, [189, 188], [2, 1]), (some 191, [188, 190], [1, 3]), (some 192, [191], [4, 1]), (some 193, [28, 192], [5]), (some 194, [193, 192], [6, 5]), (some 195, [192, 194], [5, 7]), (some 196, [195], [8, 5]), (some 197, [27, 196], [9]), (some 198, [13, 196], [9]), (some 199, [198, 196], [11, 9]), (some 200, [199, 196], [12, 9]), (some 201, [197, 200, 196], [10, 13, 9]), (some 202, [196, 201], [9, 14]), (some 203, [202], [15, 9]), (some 204, [13, 203], [16]), (some 205, [204, 203], [17, 16]), (some 206, [205, 203], [18, 16]), (some 207, [203], [16]), (some 208, [206, 207, 203], [19, 20, 16]), (some 209, [203, 208], [16, 21]), (some 210, [209], [22, 16]), (some 211, [15, 210], [23]), (some 212, [211, 210], [24, 23, 23]), (some 213, [210, 212], [23, 25]), (some 214, [213], [26, 25]), (some 215, [214], [27]), (some 216, [215, 214], [28, 27, 27]), (some 217, [216, 214], [29, 27]), (some 218, [214, 217], [27, 30]), (some 219, [218], [31, 29]), (some 220, [15, 219], [32]), (some 221, [15, 219], [32]), (some 222, [220, 221, 219], [33, 34, 32, 32]), (some 223, [219, 222], [32, 35]), (some 224, [223], [36, 35]), (some 225, [15, 224], [37]), (some 226, [1, 224], [37]), (some 227, [225, 226, 224], [38, 39, 37, 37]), (some 228, [227, 224], [40, 37]), (some 229, [224, 228], [37, 41]), (some 0, [229], [42, 40, 0, 1, 2, 3, 4, 5, 6, 7, 8, 9, 10, 11, 12, 13, 14, 15, 16, 17, 18, 19, 20, 21, 22, 23, 24, 25, 26, 27, 28, 29, 30, 31, 32, 33, 34, 35, 36, 37, 38, 39, 40, 41, 42])]
namespace San
def rA : Rec := ⟨2, 1, 100, -1, 0, 1, ⟨#[119, 104, 111, 108, 101]⟩⟩
def rB : Rec := ⟨5, 1, 200, 2, 1, 1, ⟨#[99, 114, 97, 99, 107, 101, 100]⟩⟩
def rC : Rec := ⟨2, 2, 150, 2, 1, 1, ⟨#[115, 116, 97, 105, 110, 101, 100]⟩⟩
def l1 : List Rec := [rA]
def l2 : List Rec := [rA, rB]
def l3 : List Rec := [rA, rC]
def l4 : List Rec := [rA, rC, rB]
def lB : List Rec := [rB]
def lC : List Rec := [rC]
theorem h1 : Rep.addF 2 [] ⟨0, 0, 100, -1, 0, 1, ⟨#[119, 104, 111, 108, 101]⟩⟩ = some l1 := by kernel_rfl
theorem h2 : Rep.mergeF 5 [] 2 l1 = some l1 := by kernel_rfl
theorem h3 : Rep.corrF 5 l1 ⟨0, 0, 200, 2, 1, 1, ⟨#[99, 114, 97, 99, 107, 101, 100]⟩⟩ = some l2 := by kernel_rfl
theorem h4 : Rep.corrF 2 l1 ⟨0, 0, 150, 2, 1, 1, ⟨#[115, 116, 97, 105, 110, 101, 100]⟩⟩ = some l3 := by kernel_rfl
theorem h5 : Rep.foldO 2 l3 = some lC := by kernel_rfl
theorem h6 : Rep.foldO 5 l2 = some lB := by kernel_rfl
theorem h7 : Rep.behindF 2 l3 5 l2 = some lB := by kernel_rfl
theorem h8 : Rep.mergeF 2 l3 5 l2 = some l4 := by kernel_rfl
theorem h9 : Rep.foldO 2 l4 = some lB := by kernel_rfl
theorem h10 : Rep.histO 2 l4 (2, 1) = some l4 := by kernel_rfl
theorem h11 : Rep.histO 2 l4 (3, 1) = none := by kernel_rfl
theorem h12 : Rep.okR (recN lB 0) = true := by kernel_rfl
theorem h13 : Rep.decR (Rep.encR (recN lB 0)) = some (recN lB 0) := by kernel_rfl
theorem hs : (Rep.encR (recN lB 0)).size ≤ 1000000 := of_decide_eq_true (by kernel_rfl)
theorem h14 : Rep.validB 2 l4 = true := by kernel_rfl
theorem h15 : Rep.validB (-1) [] = false := by kernel_rfl
theorem h16 : decide ((2 : Int) = 2 ∧ l4 = l4) = true := by kernel_rfl
theorem h17 : decide ((2 : Int) = 2 ∧ l4 = l3) = false := by kernel_rfl
end San
theorem TxtB.one {w : World} {B : Nat} {x : Rec} (h : BoxAt w B 0 (.string x.x)) : TxtB w B 1 [x] := ⟨fun i hi => by
 match i, hi with
 | 0, _ => exact h.1
 | _ + 1, h => omega⟩
theorem TxtB.three {w : World} {B : Nat} {x y z : Rec} (h : BoxAt w B 0 (.string x.x)) (k : BoxAt w B 1 (.string y.x)) (m : BoxAt w B 2 (.string z.x)) : TxtB w B 3 [x, y, z] := ⟨fun i hi => by
 match i, hi with
 | 0, _ => exact h.1
 | 1, _ => exact k.1
 | 2, _ => exact m.1
 | _ + 3, h => omega⟩
theorem Same_r {w1 w2 : World} {a1 a2 : Option Addr} {n1 n2 : Nat} {l1 l2 : List Rec} {c1 c2 : Int} {r : Bool} (k1 k2 : Nat) (w : World) (H1 : RecsAt w1 a1 n1 l1) (e1 : Ext w1 w) (H2 : RecsAt w2 a2 n2 l2) (e2 : Ext w2 w) (hr : decide (c1 = c2 ∧ l1 = l2) = r) : Calls Tryz.prog 30 #[.agg #[.int .i64 c1, .slice a1 n1 k1], .agg #[.int .i64 c2, .slice a2 n2 k2]] w fun e w' => e = .returned (.bool r) ∧ Ext w w' := hr ▸ Same_c k1 k2 w H1 e1 H2 e2
theorem sane_c (w : World) (hRl : RootAt w) : Calls Tryz.prog 10 #[] w fun e w' => e = .returned (.bool true) ∧ Ext w w' := by
 refine calls_cw 230 [] Tryz.func10 rfl Tryz.ntmps10 (by kernel_rfl) (by kernel_rfl) (fun L => ?_);have hE := Ext.refl w;refine zc (zp (pT (.bool false) ?_));refine zn (zc (zp (pS (sc 33 #[iv 2] ((New_y (c := 2) _ (by omega) (hRl.ext (Ext.refl _))).mono ?_)))));rintro e w1 ⟨rfl, hb⟩;replace hE := hE.trans hb;have Dd := hb.size;refine ⟨_, rfl, pD (.tuple #[.agg #[iv 2, .slice none 0 0], iv 0]) (.agg #[iv 2, .slice none 0 0]) ?_⟩;refine pT (iv 0) ?_;refine pS (sw 25 #[iv 0, .slice none 0 0] ?_);intro O3 X4 Dq Ha hb hbx;have ⟨Be, Bg⟩ := bq2 hbx;replace hE := hE.trans hb;have Dt := hb.size;have Dc := Be.lt;refine pP (sn_set2 (O := O3) (j := 0) (v := iv 2) (v' := .slice none 0 0) (xt (pw O3 0) (.agg #[iv 2, .slice none 0 0]) (st25 Be.1 Be.2 Bg.1 Bg.2)) Be Bg ?_);intro X7 ho Be Bg hk;replace hE := ho.ext hE (T Dd (Nat.le_of_eq Dq));have Cw := Nat.le_of_eq ho.size.symm;clear ho hk;refine pT (iv 0) ?_;refine zn (zc (zp (pS (sc 33 #[iv 5] ((New_y (c := 5) _ (by omega) (hRl.ext hE)).mono ?_)))));rintro e w9 ⟨rfl, hb⟩;refine mv3 hb hE Be Bg fun hE Be Bg=>?_;have C9 := hb.size;refine ⟨_, rfl, pD (.tuple #[.agg #[iv 5, .slice none 0 0], iv 0]) (.agg #[iv 5, .slice none 0 0]) ?_⟩;refine pT (iv 0) ?_;refine pS (sw 25 #[iv 0, .slice none 0 0] ?_);intro Dg Gl Cl G8 hb hbx;have ⟨Bc, Bf⟩ := bq2 hbx;refine mv3 hb hE Be Bg fun hE Be Bg=>?_;have Cu := hb.size;have D8 := Bc.lt;refine pP (sn_set2 (O := Dg) (j := 0) (v := iv 5) (v' := .slice none 0 0) (xt (pw Dg 0) (.agg #[iv 5, .slice none 0 0]) (st25 Bc.1 Bc.2 Bf.1 Bf.2)) Bc Bf ?_);intro Fc ho Bc Bf hk;replace hE := ho.ext hE (by omega);have q9 := ho.bx O3 (by omega);replace Be := q9 Be;replace Bg := q9 Bg;clear q9;have Cg := Nat.le_of_eq ho.size.symm;clear ho hk;refine pT (iv 0) ?_;refine zn (zc (zp (pU (.agg #[iv 2, .slice none 0 0]) (xl (ld25 (Be.1) (Bg.1))) ?_)));refine pS (sc 18 #[.agg #[iv 2, .slice none 0 0], iv 100, iv 1, .string (⟨#[119, 104, 111, 108, 101]⟩)] ((Add_y _ 100 1 ⟨#[119, 104, 111, 108, 101]⟩ _ (RecsAt.nil Fc) (Ext.refl _) (hRl.ext hE) San.h1).mono ?_));rintro e F5 ⟨Dh, Hb, Dl, rfl, Dy, Fe, Cx, hb⟩;obtain rfl : 1 = Hb := Dy.len;refine mv5 hb hE Be Bg Bc Bf fun hE Be Bg Bc Bf=>?_;have Cp := hb.size;have Gw := Ext.refl F5;refine ⟨_, rfl, pD (.tuple #[.agg #[iv 2, .slice Dh 1 Dl], iv 0]) (.agg #[iv 2, .slice Dh 1 Dl]) ?_⟩;refine pT (iv 0) ?_;have Bw := Dy;refine pP (sn_set2 (O := O3) (j := 0) (v := iv 2) (v' := .slice Dh 1 Dl) (xt (pw O3 0) (.agg #[iv 2, .slice Dh 1 Dl]) (st25 Be.1 Be.2 Bg.1 Bg.2)) Be Bg ?_);intro Fd ho Be Bg hk;replace hE := ho.ext hE (T Dd (Nat.le_of_eq Dq));have q9 := ho.bx Dg (by omega);replace Bc := q9 Bc;replace Bf := q9 Bf;clear q9;replace Bw := Bw.turn ho (fun ad e => Nat.ne_of_gt (Nat.lt_of_lt_of_le (by omega) (Cx ad e)));have Cq := Nat.le_of_eq ho.size.symm;clear ho hk;refine pT (iv 0) ?_;refine zn (cK [1,2,3,4,5] (fun L => ?_));refine zc (zp (pU (.agg #[iv 5, .slice none 0 0]) (xl (ld25 (Bc.1) (Bf.1))) ?_));refine pU (.agg #[iv 2, .slice Dh 1 Dl]) (xl (ld25 (Be.1) (Bg.1))) ?_;refine pS (sc 26 #[.agg #[iv 5, .slice none 0 0], .agg #[iv 2, .slice Dh 1 Dl]] ((Merge_y _ _ _ (RecsAt.nil Fd) (Ext.refl _) (Bw) (Ext.refl _) (hRl.ext hE) San.h2).mono ?_));rintro e F6 ⟨Dr, Hc, Du, rfl, Dz, Ff, D5, hb⟩;obtain rfl : 1 = Hc := Dz.len;refine mv6 hb hE Bc Bf Bw Be Bg fun hE Bc Bf Bw Be Bg=>?_;have Cz := hb.size;have Gx := Ext.refl F6;refine ⟨_, rfl, pD (.tuple #[.agg #[iv 5, .slice Dr 1 Du], iv 0]) (.agg #[iv 5, .slice Dr 1 Du]) ?_⟩;refine pT (iv 0) ?_;have Bz := Dz;refine pP (sn_set2 (O := Dg) (j := 0) (v := iv 5) (v' := .slice Dr 1 Du) (xt (pw Dg 0) (.agg #[iv 5, .slice Dr 1 Du]) (st25 Bc.1 Bc.2 Bf.1 Bf.2)) Bc Bf ?_);intro Gs ho Bc Bf hk;replace hE := ho.ext hE (by omega);replace Bw := Bw.turn ho (fun ad e => Nat.ne_of_gt (Nat.lt_of_lt_of_le (Nat.lt_of_lt_of_le D8 Cg) (Cx ad e)));have q9 := ho.bx O3 (by omega);replace Be := q9 Be;replace Bg := q9 Bg;clear q9;replace Bz := Bz.turn ho (fun ad e => Nat.ne_of_gt (Nat.lt_of_lt_of_le (by omega) (D5 ad e)));have D0 := Nat.le_of_eq ho.size.symm;clear ho hk;refine pT (iv 0) ?_;refine zn (zc (zp (pU (.agg #[iv 5, .slice Dr 1 Du]) (xl (ld25 (Bc.1) (Bf.1))) ?_)));refine pS (sc 22 #[.agg #[iv 5, .slice Dr 1 Du], iv 200, iv 2, iv 1, iv 1, .string (⟨#[99, 114, 97, 99, 107, 101, 100]⟩)] ((Correct_y _ 200 2 1 1 ⟨#[99, 114, 97, 99, 107, 101, 100]⟩ _ (Bz) (Ext.refl _) (hRl.ext hE) San.h3).mono ?_));rintro e F7 ⟨D9, Hd, Da, rfl, E0, Fg, Dk, hb⟩;obtain rfl : 2 = Hd := E0.len;refine mv6 hb hE Bw Be Bg Bc Bf fun hE Bw Be Bg Bc Bf=>?_;have De := hb.size;have Gy := Ext.refl F7;refine ⟨_, rfl, pD (.tuple #[.agg #[iv 5, .slice D9 2 Da], iv 0]) (.agg #[iv 5, .slice D9 2 Da]) ?_⟩;refine pT (iv 0) ?_;have C0 := E0;refine pP (sn_set2 (O := Dg) (j := 0) (v := iv 5) (v' := .slice D9 2 Da) (xt (pw Dg 0) (.agg #[iv 5, .slice D9 2 Da]) (st25 Bc.1 Bc.2 Bf.1 Bf.2)) Bc Bf ?_);intro Gt ho Cj Ck hk;replace hE := ho.ext hE (by omega);replace Bw := Bw.turn ho (fun ad e => Nat.ne_of_gt (Nat.lt_of_lt_of_le (Nat.lt_of_lt_of_le D8 Cg) (Cx ad e)));have q9 := ho.bx O3 (by omega)
 replace Be := q9 Be;replace Bg := q9 Bg;clear q9;replace C0 := C0.turn ho (fun ad e => Nat.ne_of_gt (Nat.lt_of_lt_of_le (by omega) (Dk ad e)));have Df := Nat.le_of_eq ho.size.symm;clear ho hk Bc Bf;have Bc := Cj;clear Cj;have Bf := Ck;clear Ck;refine pT (iv 0) ?_;refine zn (cK [1,2,3,4,5,6,7] (fun L => ?_));refine zc (zp (pU (.agg #[iv 2, .slice Dh 1 Dl]) (xl (ld25 (Be.1) (Bg.1))) ?_));refine pS (sc 22 #[.agg #[iv 2, .slice Dh 1 Dl], iv 150, iv 2, iv 1, iv 1, .string (⟨#[115, 116, 97, 105, 110, 101, 100]⟩)] ((Correct_y _ 150 2 1 1 ⟨#[115, 116, 97, 105, 110, 101, 100]⟩ _ (Bw) (Ext.refl _) (hRl.ext hE) San.h4).mono ?_));rintro e F8 ⟨Cy, He, D2, rfl, E1, Fh, E5, hb⟩;obtain rfl : 2 = He := E1.len;refine mv6 hb hE Be Bg C0 Bc Bf fun hE Be Bg C0 Bc Bf=>?_;have Dn := hb.size;have Gz := Ext.refl F8;refine ⟨_, rfl, pD (.tuple #[.agg #[iv 2, .slice Cy 2 D2], iv 0]) (.agg #[iv 2, .slice Cy 2 D2]) ?_⟩;refine pT (iv 0) ?_;have C2 := E1;refine pP (sn_set2 (O := O3) (j := 0) (v := iv 2) (v' := .slice Cy 2 D2) (xt (pw O3 0) (.agg #[iv 2, .slice Cy 2 D2]) (st25 Be.1 Be.2 Bg.1 Bg.2)) Be Bg ?_);intro Gu ho Be Bg hk;replace hE := ho.ext hE (T Dd (Nat.le_of_eq Dq));replace C0 := C0.turn ho (fun ad e => Nat.ne_of_gt (Nat.lt_of_lt_of_le (by omega) (Dk ad e)));have q9 := ho.bx Dg (by omega);replace Bc := q9 Bc;replace Bf := q9 Bf;clear q9;replace C2 := C2.turn ho (fun ad e => Nat.ne_of_gt (Nat.lt_of_lt_of_le (by omega) (E5 ad e)));have Do := Nat.le_of_eq ho.size.symm;clear ho hk;refine pT (iv 0) ?_;refine zn (zc (zc (zp (pD (iv 0) (.bool false) ?_))));refine pD (.bool false) (iv 0) ?_;refine pD (.bool false) (.bool false) ?_;refine pD (.bool false) (iv 0) ?_;refine pD (.bool false) (.bool false) ?_;refine pD (.bool false) (iv 0) ?_;refine pD (.bool false) (.bool false) ?_;refine pD (.bool false) (iv 0) ?_;refine pD (.bool false) (.bool false) ?_;refine pD (.bool false) (iv 0) ?_;refine pD (.bool false) (.bool false) ?_;refine zn (cK [1,3,80] (fun L => ?_));refine zf ?_;refine cw_skip (zq (zc (zp (pU (.agg #[iv 2, .slice Cy 2 D2]) (xl (ld25 (Be.1) (Bg.1))) ?_))));refine pS (sc 13 #[.agg #[iv 2, .slice Cy 2 D2]] ((Fold_y _ _ (C2) (Ext.refl _) (hRl.ext hE) San.h5).mono ?_));rintro e Gh ⟨Dw, Hf, E6, rfl, E2, Fi, hb⟩;obtain rfl : 1 = Hf := E2.len;refine mv7 hb hE C0 Bc Bf C2 Be Bg fun hE C0 Bc Bf C2 Be Bg=>?_;have Dp := hb.size;have Bn := Ext.refl Gh;refine ⟨_, rfl, pD (.tuple #[.slice Dw 1 E6, iv 0]) (.slice Dw 1 E6) ?_⟩;refine pD (iv 0) (.slice Dw 1 E6) ?_;refine pT (iv 0) ?_;refine zn (zc (zp (pU (.agg #[iv 5, .slice D9 2 Da]) (xl (ld25 (Bc.1) (Bf.1))) ?_)));refine pS (sc 13 #[.agg #[iv 5, .slice D9 2 Da]] ((Fold_y _ _ (C0) (Ext.refl _) (hRl.ext hE) San.h6).mono ?_));rintro e Gi ⟨Dx, Hg, E7, rfl, E3, Fj, hb⟩;obtain rfl : 1 = Hg := E3.len;refine mv7 hb hE Bn C0 Bc Bf C2 Be fun hE Bn C0 Bc Bf C2 Be=>?_;replace Bg := Bg.x hb;have D1 := hb.size;have Bp := Ext.refl Gi;refine ⟨_, rfl, pD (.tuple #[.slice Dx 1 E7, iv 0]) (.slice Dx 1 E7) ?_⟩;refine pD (iv 0) (.slice Dx 1 E7) ?_;refine pT (iv 0) ?_;refine zn (cK [1,3,9,10,11,12] (fun L => ?_));refine zc (zp (pU (.agg #[iv 2, .slice Cy 2 D2]) (xl (ld25 (Be.1) (Bg.1))) ?_));refine pU (.agg #[iv 5, .slice D9 2 Da]) (xl (ld25 (Bc.1) (Bf.1))) ?_;refine pS (sc 28 #[.agg #[iv 2, .slice Cy 2 D2], .agg #[iv 5, .slice D9 2 Da]] ((Behind_y _ _ _ (C2) (Ext.refl _) (C0) (Ext.refl _) (hRl.ext hE) San.h7).mono ?_));rintro e Gj ⟨Ed, Hh, Db, rfl, E4, Fk, hb⟩;obtain rfl : 1 = Hh := E4.len;refine mv9 hb hE Bn Bp C0 Bc Bf C2 Be Bg fun hE Bn Bp C0 Bc Bf C2 Be Bg=>?_;have Cr := hb.size;have Bq := Ext.refl Gj;refine ⟨_, rfl, pD (.tuple #[.slice Ed 1 Db, iv 0]) (.slice Ed 1 Db) ?_⟩;refine pD (iv 0) (.slice Ed 1 Db) ?_;refine pT (iv 0) ?_;refine zn (zc (zp (pU (.agg #[iv 2, .slice Cy 2 D2]) (xl (ld25 (Be.1) (Bg.1))) ?_)));refine pU (.agg #[iv 5, .slice D9 2 Da]) (xl (ld25 (Bc.1) (Bf.1))) ?_;refine pS (sc 26 #[.agg #[iv 2, .slice Cy 2 D2], .agg #[iv 5, .slice D9 2 Da]] ((Merge_y _ _ _ (C2) (Ext.refl _) (C0) (Ext.refl _) (hRl.ext hE) San.h8).mono ?_));rintro e Gk ⟨Co, Hi, Cs, rfl, Ct, Fl, Fm, hb⟩;obtain rfl : 3 = Hi := Ct.len;refine mv7 hb hE Bn Bp Bq C2 Be Bg fun hE Bn Bp Bq C2 Be Bg=>?_;have Cm := hb.size;have Bi := Ext.refl Gk;refine ⟨_, rfl, pD (.tuple #[.agg #[iv 2, .slice Co 3 Cs], iv 0]) (.agg #[iv 2, .slice Co 3 Cs]) ?_⟩;refine pT (iv 0) ?_;refine pS (sw 25 #[iv 0, .slice none 0 0] ?_);intro Ec Gv Cv G9 hb hbx;have ⟨Br, Bu⟩ := bq2 hbx;refine mv5 hb hE Bn Bp Bq Bi fun hE Bn Bp Bq Bi=>?_;have Ca := hb.size;have Ga := Br.lt;refine pP (sn_set2 (O := Ec) (j := 0) (v := iv 2) (v' := .slice Co 3 Cs) (xt (pw Ec 0) (.agg #[iv 2, .slice Co 3 Cs]) (st25 Br.1 Br.2 Bu.1 Bu.2)) Br Bu ?_);intro Ei ho Br Bu hk;replace hE := ho.ext hE (by omega);replace Bn := ho.ext Bn (T (T D1 (T Cr Cm)) (Nat.le_of_eq Cv));replace Bp := ho.ext Bp (T (T Cr Cm) (Nat.le_of_eq Cv));replace Bq := ho.ext Bq (T Cm (Nat.le_of_eq Cv));replace Bi := ho.ext Bi (Nat.le_of_eq Cv);have Cb := Nat.le_of_eq ho.size.symm;clear ho hk;refine pT (iv 0) ?_;refine zn (cK [1,9,10,11,12,13,14,15,16] (fun L => ?_));refine zc (zp (pU (.agg #[iv 2, .slice Co 3 Cs]) (xl (ld25 (Br.1) (Bu.1))) ?_))
 refine pS (sc 13 #[.agg #[iv 2, .slice Co 3 Cs]] ((Fold_y _ _ ((Ct.ext Bi)) (Ext.refl _) (hRl.ext hE) San.h9).mono ?_));rintro e E8 ⟨D3, F2, D6, rfl, Di, Eo, hb⟩;obtain rfl : 1 = F2 := Di.len;refine mv7 hb hE Bn Bp Bq Bi Br Bu fun hE Bn Bp Bq Bi Br Bu=>?_;have Cc := hb.size;have Bj := Ext.refl E8;refine ⟨_, rfl, pD (.tuple #[.slice D3 1 D6, iv 0]) (.slice D3 1 D6) ?_⟩;refine pD (iv 0) (.slice D3 1 D6) ?_;refine pT (iv 0) ?_;refine zn (cK [1,9,10,11,12,13,14,15,16,17,18] (fun L => ?_));refine zc (zp (pU (.agg #[iv 2, .slice Co 3 Cs]) (xl (ld25 (Br.1) (Bu.1))) ?_));refine pS (sc 24 #[.agg #[iv 2, .slice Co 3 Cs], iv 2, iv 1] ((History_y _ _ ((Ct.ext Bi)) (Ext.refl _) (hRl.ext hE) San.h10).mono ?_));rintro e E9 ⟨D4, F3, D7, rfl, Dj, Ep, hb⟩;obtain rfl : 3 = F3 := Dj.len;refine mv7 hb hE Bn Bp Bq Bi Bj Br fun hE Bn Bp Bq Bi Bj Br=>?_;replace Bu := Bu.x hb;have C6 := hb.size;have Bm := Ext.refl E9;refine ⟨_, rfl, pD (.tuple #[.slice D4 3 D7, iv 0]) (.slice D4 3 D7) ?_⟩;refine pD (iv 0) (.slice D4 3 D7) ?_;refine pT (iv 0) ?_;refine zn (cK [1,9,10,11,12,13,14,15,16,17,18,19,20] (fun L => ?_));refine zc (zp (pU (.agg #[iv 2, .slice Co 3 Cs]) (xl (ld25 (Br.1) (Bu.1))) ?_));refine pS (sc 24 #[.agg #[iv 2, .slice Co 3 Cs], iv 3, iv 1] ((History_n _ _ ((Ct.ext Bi)) (Ext.refl _) (hRl.ext hE) San.h11).mono ?_));rintro e Hj ⟨rfl, hb⟩;refine mv9 hb hE Bn Bp Bq Bi Bj Bm Br Bu fun hE Bn Bp Bq Bi Bj Bm Br Bu=>?_;have C3 := hb.size;refine ⟨_, rfl, pD (.tuple #[.slice none 0 0, iv 350]) (.slice none 0 0) ?_⟩;refine pD (iv 350) (.slice none 0 0) ?_;refine pT (iv 350) ?_;refine zn (cK [1,9,10,11,12,13,14,15,16,17,18,19,20,22] (fun L => ?_));refine zc (zp (pS (sc 33 #[iv 16] ((New_n (c := 16) _ (by omega) (hRl.ext hE)).mono ?_))));rintro e Ea ⟨rfl, hb⟩;refine mv9 hb hE Bn Bp Bq Bi Bj Bm Br Bu fun hE Bn Bp Bq Bi Bj Bm Br Bu=>?_;have C4 := hb.size;have Bh := Ext.refl Ea;refine ⟨_, rfl, pD (.tuple #[.agg #[iv 0, .slice none 0 0], iv 350]) (.agg #[iv 0, .slice none 0 0]) ?_⟩;refine pT (iv 350) ?_;refine pS (sw 25 #[iv 0, .slice none 0 0] ?_);intro Dv Ej C7 Er hb hbx;have ⟨C8, Cd⟩ := bq2 hbx;refine mv7 hb hE Bn Bp Bq Bi Bj Bm fun hE Bn Bp Bq Bi Bj Bm=>?_;replace Bh := Bh.trans hb;have Ch := hb.size;have Gb := C8.lt;refine pP (sn_set2 (O := Dv) (j := 0) (v := iv 0) (v' := .slice none 0 0) (xt (pw Dv 0) (.agg #[iv 0, .slice none 0 0]) (st25 C8.1 C8.2 Cd.1 Cd.2)) C8 Cd ?_);intro Dm ho C8 Cd hk;replace hE := ho.ext hE (by omega);replace Bn := ho.ext Bn (by omega);replace Bp := ho.ext Bp (by omega);replace Bq := ho.ext Bq (by omega);replace Bi := ho.ext Bi (by omega);replace Bj := ho.ext Bj (T (T C6 (T C3 C4)) (Nat.le_of_eq C7));replace Bm := ho.ext Bm (T (T C3 C4) (Nat.le_of_eq C7));replace Bh := ho.ext Bh (Nat.le_of_eq C7);have Ci := Nat.le_of_eq ho.size.symm;clear ho hk;refine pT (iv 350) ?_;refine zn (cK [1,9,10,11,12,13,14,15,16,17,18,19,20,22,24] (fun L => ?_));refine zc (zc (zp (pD (iv 0) (.bool false) ?_)));refine pD (.bool false) (iv 0) ?_;refine pD (.bool false) (.bool false) ?_;refine pD (.bool false) (iv 0) ?_;refine pD (.bool false) (.bool false) ?_;refine pD (.bool false) (iv 0) ?_;refine pD (.bool false) (.bool false) ?_;refine pD (.bool false) (iv 0) ?_;refine pD (.bool false) (.bool false) ?_;refine pD (.bool false) (iv 0) ?_;refine pD (.bool false) (.bool false) ?_;refine pD (.bool false) (iv 350) ?_;refine pD (.bool false) (.bool false) ?_;refine pD (.bool false) (iv 350) ?_;refine pD (.bool false) (.bool false) ?_;refine pD (.bool false) (.slice Ed 1 Db) ?_;refine pD (iv 1) (.bool false) ?_;refine pT (.bool false) ?_;refine zn (cK [1,9,11,13,15,17,19,156] (fun L => ?_));refine zf ?_;refine cw_skip (qw_then ?_);refine cw_seq ?_;have B0 := Ext.refl Dm;have Em := (E4.ext Bq);obtain ⟨b9, o9, H3, En, C1⟩ := Em.parts;have H5 := Em.len;have H6 := Em.max;have H4 := En (by omega);obtain rfl := H3 (by omega);refine zp (pT (sv b9 o9 1 Db) ?_);refine pU (pw b9 o9) (xi (sv b9 o9 1 Db) (iv ((0 : Nat) : Int)) (ix23 (k := 0) (by omega))) ?_;refine pU (.agg #[iv ((recN San.lB 0).c : Int), iv ((recN San.lB 0).n : Int), iv ((recN San.lB 0).t : Int), iv ((recN San.lB 0).o : Int), iv ((recN San.lB 0).w : Int), iv ((recN San.lB 0).k : Int), .string ((recN San.lB 0).x)]) (xl (ld49 (C1.c0 (i := 0) (by omega)) (C1.c1 (i := 0) (by omega)) (C1.c2 (i := 0) (by omega)) (C1.c3 (i := 0) (by omega)) (C1.c4 (i := 0) (by omega)) (C1.c5 (i := 0) (by omega)) (C1.c6 (i := 0) (by omega)))) ?_;refine pS (sc 31 #[.agg #[iv ((recN San.lB 0).c : Int), iv ((recN San.lB 0).n : Int), iv ((recN San.lB 0).t : Int), iv ((recN San.lB 0).o : Int), iv ((recN San.lB 0).w : Int), iv ((recN San.lB 0).k : Int), .string ((recN San.lB 0).x)]] ((Encode_y (x := (recN San.lB 0)) _ (hRl.ext hE) San.h12).mono ?_));rintro e Hk ⟨rfl, hb⟩;refine mv7 hb hE Bn Bp Bi Bj Bm Bh fun hE Bn Bp Bi Bj Bm Bh=>?_;replace B0 := B0.trans hb;have Ce := hb.size
 refine ⟨_, rfl, pD (.tuple #[.string (Rep.encR (recN San.lB 0)), iv 0]) (.string (Rep.encR (recN San.lB 0))) ?_⟩;refine pD (iv 0) (.string (Rep.encR (recN San.lB 0))) ?_;refine pT (iv 0) ?_;refine zn (cK [1,9,11,13,15,17,19,25,26] (fun L => ?_));refine zc (zp (pT (.string (Rep.encR (recN San.lB 0))) ?_));refine pS (sc 35 #[.string (Rep.encR (recN San.lB 0))] ((Decode_y (x := (recN San.lB 0)) _ San.hs (hRl.ext hE) San.h13).mono ?_));rintro e Eb ⟨rfl, hb⟩;refine mv7 hb hE Bn Bp Bi Bj Bm Bh fun hE Bn Bp Bi Bj Bm Bh=>?_;replace B0 := B0.trans hb;have Cf := hb.size;have Bt := Ext.refl Eb;refine ⟨_, rfl, pD (.tuple #[.agg #[iv ((recN San.lB 0).c : Int), iv ((recN San.lB 0).n : Int), iv ((recN San.lB 0).t : Int), iv ((recN San.lB 0).o : Int), iv ((recN San.lB 0).w : Int), iv ((recN San.lB 0).k : Int), .string ((recN San.lB 0).x)], iv 0]) (.agg #[iv ((recN San.lB 0).c : Int), iv ((recN San.lB 0).n : Int), iv ((recN San.lB 0).t : Int), iv ((recN San.lB 0).o : Int), iv ((recN San.lB 0).w : Int), iv ((recN San.lB 0).k : Int), .string ((recN San.lB 0).x)]) ?_⟩;refine pT (iv 0) ?_;refine pS (sw 49 #[iv 0, iv 0, iv 0, iv 0, iv 0, iv 0, .string (⟨#[]⟩)] ?_);intro Cn Ek C5 Es hb hbx;have ⟨B2, B3, B4, B7, B8, Ba, Bb⟩ := bq7 hbx;refine mv7 hb hE Bn Bp Bi Bj Bm Bh fun hE Bn Bp Bi Bj Bm Bh=>?_;replace B0 := B0.trans hb;have Fo := hb.size;have Gc := B2.lt;refine pP (sn_setK7 (O := Cn) (j := 0) (v0 := iv ((recN San.lB 0).c : Int)) (v1 := iv ((recN San.lB 0).n : Int)) (v2 := iv ((recN San.lB 0).t : Int)) (v3 := iv ((recN San.lB 0).o : Int)) (v4 := iv ((recN San.lB 0).w : Int)) (v5 := iv ((recN San.lB 0).k : Int)) (v6 := .string ((recN San.lB 0).x)) (xt (pw Cn 0) (.agg #[iv ((recN San.lB 0).c : Int), iv ((recN San.lB 0).n : Int), iv ((recN San.lB 0).t : Int), iv ((recN San.lB 0).o : Int), iv ((recN San.lB 0).w : Int), iv ((recN San.lB 0).k : Int), .string ((recN San.lB 0).x)]) (st49 B2.1 B2.2 B3.1 B3.2 B4.1 B4.2 B7.1 B7.2 B8.1 B8.2 Ba.1 Ba.2 Bb.1 Bb.2)) B2 B3 B4 B7 B8 Ba Bb ?_);intro El ho B2 B3 B4 B7 B8 Ba Bb hk;replace hE := ho.ext hE (by omega);replace Bn := ho.ext Bn (by omega);replace Bp := ho.ext Bp (by omega);replace Bi := ho.ext Bi (by omega);replace Bj := ho.ext Bj (by omega);replace Bm := ho.ext Bm (by omega);replace Bh := ho.ext Bh (by omega);replace B0 := ho.ext B0 (T (T Ce Cf) (Nat.le_of_eq C5));have Fp := Nat.le_of_eq ho.size.symm;clear ho hk;refine pT (iv 0) ?_;refine zn (cK [1,9,11,13,15,17,19,26,27,28] (fun L => ?_));refine zc (zp (pT (.slice Dw 1 E6) ?_));refine pS (sn_newS (us := #[.string (⟨#[115, 116, 97, 105, 110, 101, 100]⟩)]) (t := 9) (k := 1) (c := 1) (by kernel_rfl) ?_);intro Ee Gm Ey Et hb hbx;have Bk := bq1 hbx;refine mv12 hb hE Bn Bp Bi Bj Bm Bh B0 B2 B3 B4 B7 fun hE Bn Bp Bi Bj Bm Bh B0 B2 B3 B4 B7=>?_;refine mv3 hb B8 Ba Bb fun B8 Ba Bb=>?_;have Fq := hb.size;have Gd := Bk.lt;refine pS (sc 41 #[.slice Dw 1 E6, sv Ee 0 1 1] ((texts_y _ _ _ ((E2.ext Bn)) (Ext.refl _) (TxtB.one Bk)).mono ?_));rintro e Hl ⟨rfl, hb⟩;refine mv12 hb hE Bp Bi Bj Bm Bh B0 B2 B3 B4 B7 B8 fun hE Bp Bi Bj Bm Bh B0 B2 B3 B4 B7 B8=>?_;refine mv2 hb Ba Bb fun Ba Bb=>?_;have Fr := hb.size;refine ⟨_, rfl, pD (.bool true) (.slice Dx 1 E7) ?_⟩;refine pS (sn_newS (us := #[.string (⟨#[99, 114, 97, 99, 107, 101, 100]⟩)]) (t := 9) (k := 1) (c := 1) (by kernel_rfl) ?_);intro Ef Gn Ez Eu hb hbx;have Bo := bq1 hbx;refine mv12 hb hE Bp Bi Bj Bm Bh B0 B2 B3 B4 B7 B8 fun hE Bp Bi Bj Bm Bh B0 B2 B3 B4 B7 B8=>?_;refine mv2 hb Ba Bb fun Ba Bb=>?_;have Fs := hb.size;have Ge := Bo.lt;refine pS (sc 41 #[.slice Dx 1 E7, sv Ef 0 1 1] ((texts_y _ _ _ ((E3.ext Bp)) (Ext.refl _) (TxtB.one Bo)).mono ?_));rintro e Hm ⟨rfl, hb⟩;refine mv12 hb hE Bi Bj Bm Bh B0 B2 B3 B4 B7 B8 Ba fun hE Bi Bj Bm Bh B0 B2 B3 B4 B7 B8 Ba=>?_;replace Bb := Bb.x hb;have Ft := hb.size;refine ⟨_, rfl, pD (.bool true) (.bool true) ?_⟩;refine pT (.slice D3 1 D6) ?_;refine pS (sn_newS (us := #[.string (⟨#[99, 114, 97, 99, 107, 101, 100]⟩)]) (t := 9) (k := 1) (c := 1) (by kernel_rfl) ?_);intro Eg Gp F0 Ev hb hbx;have Bs := bq1 hbx;refine mv12 hb hE Bi Bj Bm Bh B0 B2 B3 B4 B7 B8 Ba fun hE Bi Bj Bm Bh B0 B2 B3 B4 B7 B8 Ba=>?_;replace Bb := Bb.x hb;have Fu := hb.size;have Gf := Bs.lt
 refine pS (sc 41 #[.slice D3 1 D6, sv Eg 0 1 1] ((texts_y _ _ _ ((Di.ext Bj)) (Ext.refl _) (TxtB.one Bs)).mono ?_));rintro e Hn ⟨rfl, hb⟩;refine mv12 hb hE Bi Bm Bh B0 B2 B3 B4 B7 B8 Ba Bb fun hE Bi Bm Bh B0 B2 B3 B4 B7 B8 Ba Bb=>?_;have Fv := hb.size;refine ⟨_, rfl, pD (.bool true) (.bool true) ?_⟩;refine pT (.slice D4 3 D7) ?_;refine pS (sn_newS (us := #[.string (⟨#[119, 104, 111, 108, 101]⟩), .string (⟨#[115, 116, 97, 105, 110, 101, 100]⟩), .string (⟨#[99, 114, 97, 99, 107, 101, 100]⟩)]) (t := 9) (k := 3) (c := 3) (by kernel_rfl) ?_);intro Eh Gq F1 Ew hb hbx;have ⟨Bv, Bx, By⟩ := bq3 hbx;refine mv12 hb hE Bi Bm Bh B0 B2 B3 B4 B7 B8 Ba Bb fun hE Bi Bm Bh B0 B2 B3 B4 B7 B8 Ba Bb=>?_;have Fw := hb.size;have Gg := Bv.lt;refine pS (sc 41 #[.slice D4 3 D7, sv Eh 0 3 3] ((texts_y _ _ _ ((Dj.ext Bm)) (Ext.refl _) (TxtB.three Bv Bx By)).mono ?_));rintro e Ho ⟨rfl, hb⟩;refine mv9 hb hE Bi Bh B0 B2 B3 B4 B7 B8 fun hE Bi Bh B0 B2 B3 B4 B7 B8=>?_;refine mv2 hb Ba Bb fun Ba Bb=>?_;have Fx := hb.size;refine ⟨_, rfl, pD (.bool true) (.bool true) ?_⟩;refine zn (cK [1,13,15,26,27,28,29] (fun L => ?_));refine zc (dE Tz62_0 (fun w' => w'.cell? ⟨Cn, 0, none⟩ = some (iv ((recN San.lB 0).c : Int)) ∧ w'.cell? ⟨Cn, 1, none⟩ = some (iv ((recN San.lB 0).n : Int)) ∧ w'.cell? ⟨Cn, 2, none⟩ = some (iv ((recN San.lB 0).t : Int)) ∧ w'.cell? ⟨Cn, 3, none⟩ = some (iv ((recN San.lB 0).o : Int)) ∧ w'.cell? ⟨Cn, 4, none⟩ = some (iv ((recN San.lB 0).w : Int)) ∧ w'.cell? ⟨Cn, 5, none⟩ = some (iv ((recN San.lB 0).k : Int)) ∧ w'.cell? ⟨Cn, 6, none⟩ = some (.string ((recN San.lB 0).x)) ∧ w'.cell? ⟨b9, o9, none⟩ = some (iv ((recN San.lB 0).c : Int)) ∧ w'.cell? ⟨b9, o9 + 1, none⟩ = some (iv ((recN San.lB 0).n : Int)) ∧ w'.cell? ⟨b9, o9 + 2, none⟩ = some (iv ((recN San.lB 0).t : Int)) ∧ w'.cell? ⟨b9, o9 + 3, none⟩ = some (iv ((recN San.lB 0).o : Int)) ∧ w'.cell? ⟨b9, o9 + 4, none⟩ = some (iv ((recN San.lB 0).w : Int)) ∧ w'.cell? ⟨b9, o9 + 5, none⟩ = some (iv ((recN San.lB 0).k : Int)) ∧ w'.cell? ⟨b9, o9 + 6, none⟩ = some (.string ((recN San.lB 0).x)) ∧ w'.cell? ⟨Ec, 0, none⟩ = some (iv 2) ∧ w'.cell? ⟨Ec, 1, none⟩ = some (.slice Co 3 Cs) ∧ w'.cell? ⟨O3, 0, none⟩ = some (iv 2) ∧ w'.cell? ⟨O3, 1, none⟩ = some (.slice Cy 2 D2)) (⟨B2.1, B3.1, B4.1, B7.1, B8.1, Ba.1, Bb.1, (C1.ext B0).c0 (i := 0) (by omega), (C1.ext B0).c1 (i := 0) (by omega), (C1.ext B0).c2 (i := 0) (by omega), (C1.ext B0).c3 (i := 0) (by omega), (C1.ext B0).c4 (i := 0) (by omega), (C1.ext B0).c5 (i := 0) (by omega), (C1.ext B0).c6 (i := 0) (by omega), (Br.x Bh).1, (Bu.x Bh).1, (Be.x Bi).1, (Bg.x Bi).1⟩) (fun ops Q Gr hb hL hR hK => ?_));refine mv9 hb hE Bi Bh B0 B2 B3 B4 B7 B8 fun hE Bi Bh B0 B2 B3 B4 B7 B8=>?_;refine mv2 hb Ba Bb fun Ba Bb=>?_;have Fy := hb.size;have hS := A18 B2.1 B3.1 B4.1 B7.1 B8.1 Ba.1 Bb.1 ((C1.ext B0).c0 (i := 0) (by omega)) ((C1.ext B0).c1 (i := 0) (by omega)) ((C1.ext B0).c2 (i := 0) (by omega)) ((C1.ext B0).c3 (i := 0) (by omega)) ((C1.ext B0).c4 (i := 0) (by omega)) ((C1.ext B0).c5 (i := 0) (by omega)) ((C1.ext B0).c6 (i := 0) (by omega)) (Br.c Bh) (Bu.c Bh) (Be.c Bi) (Bg.c Bi);refine wW 0 (.bool true) 1 (.bool true) hR hS ?_;refine wW 2 (iv 0) 3 (.bool true) hR hS ?_;refine wW 4 (.bool true) 5 (.bool true) hR hS ?_;refine wW 6 (iv 0) 7 (.bool true) hR hS ?_;refine wW 8 (.bool true) 9 (.bool true) hR hS ?_;refine wM 10 (.agg #[iv ((recN San.lB 0).c : Int), iv ((recN San.lB 0).n : Int), iv ((recN San.lB 0).t : Int), iv ((recN San.lB 0).o : Int), iv ((recN San.lB 0).w : Int), iv ((recN San.lB 0).k : Int), .string ((recN San.lB 0).x)]) hR (fun w hS => ld49 (hS.1) (hS.2.1) (hS.2.2.1) (hS.2.2.2.1) (hS.2.2.2.2.1) (hS.2.2.2.2.2.1) (hS.2.2.2.2.2.2.1)) hS ?_;refine wV 11 (sv b9 o9 1 Db) hR hS ?_;refine wL 12 (pw b9 o9) hR (fun w _ => ex_index (p := sv b9 o9 1 Db) (i := iv ((0 : Nat) : Int)) rfl (by kernel_rfl) (by kernel_rfl) (ix23 (k := 0) (by omega))) hS ?_;refine wM 13 (.agg #[iv ((recN San.lB 0).c : Int), iv ((recN San.lB 0).n : Int), iv ((recN San.lB 0).t : Int), iv ((recN San.lB 0).o : Int), iv ((recN San.lB 0).w : Int), iv ((recN San.lB 0).k : Int), .string ((recN San.lB 0).x)]) hR (fun w hS => ld49 (hS.2.2.2.2.2.2.2.1) (hS.2.2.2.2.2.2.2.2.1) (hS.2.2.2.2.2.2.2.2.2.1) (hS.2.2.2.2.2.2.2.2.2.2.1) (hS.2.2.2.2.2.2.2.2.2.2.2.1) (hS.2.2.2.2.2.2.2.2.2.2.2.2.1) (hS.2.2.2.2.2.2.2.2.2.2.2.2.2.1)) hS ?_;refine wL 14 (.bool true) hR (fun w _ => ex_binV (a := .agg #[iv ((recN San.lB 0).c : Int), iv ((recN San.lB 0).n : Int), iv ((recN San.lB 0).t : Int), iv ((recN San.lB 0).o : Int), iv ((recN San.lB 0).w : Int), iv ((recN San.lB 0).k : Int), .string ((recN San.lB 0).x)]) (b := .agg #[iv ((recN San.lB 0).c : Int), iv ((recN San.lB 0).n : Int), iv ((recN San.lB 0).t : Int), iv ((recN San.lB 0).o : Int), iv ((recN San.lB 0).w : Int), iv ((recN San.lB 0).k : Int), .string ((recN San.lB 0).x)]) rfl (by kernel_rfl) (by kernel_rfl) (eqG_agg (by kernel_rfl)) (bin_eqv_t (rec_eq _ ((recN San.lB 0)) ((recN San.lB 0))) rfl)) hS ?_;refine wW 15 (.bool true) 16 (.bool true) hR hS ?_;refine wV 17 (sv b9 o9 1 Db) hR hS ?_;refine wL 18 (pw b9 o9) hR (fun w _ => ex_index (p := sv b9 o9 1 Db) (i := iv ((0 : Nat) : Int)) rfl (by kernel_rfl) (by kernel_rfl) (ix23 (k := 0) (by omega))) hS ?_
 refine wM 19 (.agg #[iv ((recN San.lB 0).c : Int), iv ((recN San.lB 0).n : Int), iv ((recN San.lB 0).t : Int), iv ((recN San.lB 0).o : Int), iv ((recN San.lB 0).w : Int), iv ((recN San.lB 0).k : Int), .string ((recN San.lB 0).x)]) hR (fun w hS => ld49 (hS.2.2.2.2.2.2.2.1) (hS.2.2.2.2.2.2.2.2.1) (hS.2.2.2.2.2.2.2.2.2.1) (hS.2.2.2.2.2.2.2.2.2.2.1) (hS.2.2.2.2.2.2.2.2.2.2.2.1) (hS.2.2.2.2.2.2.2.2.2.2.2.2.1) (hS.2.2.2.2.2.2.2.2.2.2.2.2.2.1)) hS ?_;refine wV 20 (.agg #[iv 5, iv 1, iv 200, iv 2, iv 1, iv 1, .string (⟨#[99, 114, 97, 99, 107, 101, 100]⟩)]) hR hS ?_;refine wL 21 (.bool true) hR (fun w _ => ex_binV (a := .agg #[iv ((recN San.lB 0).c : Int), iv ((recN San.lB 0).n : Int), iv ((recN San.lB 0).t : Int), iv ((recN San.lB 0).o : Int), iv ((recN San.lB 0).w : Int), iv ((recN San.lB 0).k : Int), .string ((recN San.lB 0).x)]) (b := .agg #[iv 5, iv 1, iv 200, iv 2, iv 1, iv 1, .string (⟨#[99, 114, 97, 99, 107, 101, 100]⟩)]) rfl (by kernel_rfl) (by kernel_rfl) (eqG_agg (by kernel_rfl)) (bin_eqv_t (rec_eq _ ((recN San.lB 0)) ((⟨5, 1, 200, 2, 1, 1, ⟨#[99, 114, 97, 99, 107, 101, 100]⟩⟩ : Rec))) rfl)) hS ?_;refine wW 22 (.bool true) 23 (.bool true) hR hS ?_;refine wM 24 (.agg #[iv 2, .slice Co 3 Cs]) hR (fun w hS => ld25 (hS.2.2.2.2.2.2.2.2.2.2.2.2.2.2.1) (hS.2.2.2.2.2.2.2.2.2.2.2.2.2.2.2.1)) hS ?_;refine wC 25 16 #[.agg #[iv 2, .slice Co 3 Cs]] hR ((Valid_r (r := true) _ _ ((Ct.ext Bi)) (Ext.refl _) (hRl.ext hE) San.h14).mono ?_);rintro e F4 ⟨rfl, hb⟩;refine mv9 hb hE Bi Bh B0 B2 B3 B4 B7 B8 fun hE Bi Bh B0 B2 B3 B4 B7 B8=>?_;refine mv2 hb Ba Bb fun Ba Bb=>?_;have Fz := hb.size;have hS := A18 B2.1 B3.1 B4.1 B7.1 B8.1 Ba.1 Bb.1 ((C1.ext B0).c0 (i := 0) (by omega)) ((C1.ext B0).c1 (i := 0) (by omega)) ((C1.ext B0).c2 (i := 0) (by omega)) ((C1.ext B0).c3 (i := 0) (by omega)) ((C1.ext B0).c4 (i := 0) (by omega)) ((C1.ext B0).c5 (i := 0) (by omega)) ((C1.ext B0).c6 (i := 0) (by omega)) (Br.c Bh) (Bu.c Bh) (Be.c Bi) (Bg.c Bi);refine ⟨_, rfl, hS, ?_⟩;refine wW 26 (.bool true) 27 (.bool true) hR hS ?_;refine wV 28 (.agg #[iv (-1 : Int), .slice none 0 0]) hR hS ?_;refine wC 29 16 #[.agg #[iv (-1 : Int), .slice none 0 0]] hR ((Valid_r (r := false) _ _ (RecsAt.nil F4) (Ext.refl _) (hRl.ext hE) San.h15).mono ?_);rintro e Hs ⟨rfl, hb⟩;refine mv9 hb hE Bi Bh B0 B2 B3 B4 B7 B8 fun hE Bi Bh B0 B2 B3 B4 B7 B8=>?_;refine mv2 hb Ba Bb fun Ba Bb=>?_;have G0 := hb.size;have hS := A18 B2.1 B3.1 B4.1 B7.1 B8.1 Ba.1 Bb.1 ((C1.ext B0).c0 (i := 0) (by omega)) ((C1.ext B0).c1 (i := 0) (by omega)) ((C1.ext B0).c2 (i := 0) (by omega)) ((C1.ext B0).c3 (i := 0) (by omega)) ((C1.ext B0).c4 (i := 0) (by omega)) ((C1.ext B0).c5 (i := 0) (by omega)) ((C1.ext B0).c6 (i := 0) (by omega)) (Br.c Bh) (Bu.c Bh) (Be.c Bi) (Bg.c Bi);refine ⟨_, rfl, hS, ?_⟩;refine wW 30 (.bool true) 31 (.bool true) hR hS ?_;refine wV 32 (.bool true) hR hS ?_;refine wM 33 (.agg #[iv 2, .slice Co 3 Cs]) hR (fun w hS => ld25 (hS.2.2.2.2.2.2.2.2.2.2.2.2.2.2.1) (hS.2.2.2.2.2.2.2.2.2.2.2.2.2.2.2.1)) hS ?_;refine wM 34 (.agg #[iv 2, .slice Co 3 Cs]) hR (fun w hS => ld25 (hS.2.2.2.2.2.2.2.2.2.2.2.2.2.2.1) (hS.2.2.2.2.2.2.2.2.2.2.2.2.2.2.2.1)) hS ?_;refine wC 35 30 #[.agg #[iv 2, .slice Co 3 Cs], .agg #[iv 2, .slice Co 3 Cs]] hR ((Same_r _ _ _ ((Ct.ext Bi)) (Ext.refl _) ((Ct.ext Bi)) (Ext.refl _) San.h16).mono ?_);rintro e Ht ⟨rfl, hb⟩;refine mv9 hb hE Bi Bh B0 B2 B3 B4 B7 B8 fun hE Bi Bh B0 B2 B3 B4 B7 B8=>?_;refine mv2 hb Ba Bb fun Ba Bb=>?_;have G1 := hb.size;have hS := A18 B2.1 B3.1 B4.1 B7.1 B8.1 Ba.1 Bb.1 ((C1.ext B0).c0 (i := 0) (by omega)) ((C1.ext B0).c1 (i := 0) (by omega)) ((C1.ext B0).c2 (i := 0) (by omega)) ((C1.ext B0).c3 (i := 0) (by omega)) ((C1.ext B0).c4 (i := 0) (by omega)) ((C1.ext B0).c5 (i := 0) (by omega)) ((C1.ext B0).c6 (i := 0) (by omega)) (Br.c Bh) (Bu.c Bh) (Be.c Bi) (Bg.c Bi);refine ⟨_, rfl, hS, ?_⟩;refine wW 36 (.bool true) 37 (.bool true) hR hS ?_;refine wM 38 (.agg #[iv 2, .slice Co 3 Cs]) hR (fun w hS => ld25 (hS.2.2.2.2.2.2.2.2.2.2.2.2.2.2.1) (hS.2.2.2.2.2.2.2.2.2.2.2.2.2.2.2.1)) hS ?_;refine wM 39 (.agg #[iv 2, .slice Cy 2 D2]) hR (fun w hS => ld25 (hS.2.2.2.2.2.2.2.2.2.2.2.2.2.2.2.2.1) (hS.2.2.2.2.2.2.2.2.2.2.2.2.2.2.2.2.2)) hS ?_;refine wC 40 30 #[.agg #[iv 2, .slice Co 3 Cs], .agg #[iv 2, .slice Cy 2 D2]] hR ((Same_r _ _ _ ((Ct.ext Bi)) (Ext.refl _) ((C2.ext Bi)) (Ext.refl _) San.h17).mono ?_);rintro e Hw ⟨rfl, hb⟩;refine mv9 hb hE Bi Bh B0 B2 B3 B4 B7 B8 fun hE Bi Bh B0 B2 B3 B4 B7 B8=>?_;refine mv2 hb Ba Bb fun Ba Bb=>?_;have G2 := hb.size;have hS := A18 B2.1 B3.1 B4.1 B7.1 B8.1 Ba.1 Bb.1 ((C1.ext B0).c0 (i := 0) (by omega)) ((C1.ext B0).c1 (i := 0) (by omega)) ((C1.ext B0).c2 (i := 0) (by omega)) ((C1.ext B0).c3 (i := 0) (by omega)) ((C1.ext B0).c4 (i := 0) (by omega)) ((C1.ext B0).c5 (i := 0) (by omega)) ((C1.ext B0).c6 (i := 0) (by omega)) (Br.c Bh) (Bu.c Bh) (Be.c Bi) (Bg.c Bi);refine ⟨_, rfl, hS, ?_⟩;refine wW 41 (.bool true) 42 (.bool true) hR hS ?_;refine wV 43 (.bool true) hR hS ?_;refine we hL hR hK ?_;refine zq (cK [0] (fun L => ?_));refine cw_ret (qw_ret [.bool true] rfl ⟨(by kernel_rfl), trivial⟩ ?_);exact ⟨rfl, hE⟩
end Go.Proofs.YtfmoabgjaclkpaaGreatDoor

namespace Go.Proofs.YtfmoabgjaclkpaaGreatDoor
namespace Rep
theorem lastR_app {X : List Rec} {x : Rec} : lastR (X ++ [x]) = x := by
 unfold lastR recN
 rw [List.length_append, List.length_singleton, Nat.add_sub_cancel, List.getElem?_append_right (Nat.le_refl _), Nat.sub_self]; rfl
def txF : ByteArray := ⟨#[102, 105, 114, 115, 116]⟩
def tx1 : ByteArray := ⟨#[98, 121, 32, 111, 110, 101]⟩
def tx2 : ByteArray := ⟨#[98, 121, 32, 116, 119, 111]⟩
structure Meet (L0 L1 a b p q r : List Rec) (f P Q : Rec) (p1 p2 : Nat) : Prop where
 ha : addF 0 L0 ⟨0, 0, 1000, -1, 0, 1, txF⟩ = some a
 hb : mergeF 1 L1 0 a = some b
 hp : corrF 0 a ⟨0, 0, ((1001 + p1 : Nat) : Int), 0, f.n, 1, tx1⟩ = some p
 hq : corrF 1 b ⟨0, 0, ((1001 + p2 : Nat) : Int), 0, f.n, 1, tx2⟩ = some q
 hr : mergeF 0 p 1 q = some r
 hs : mergeF 1 q 0 p = some r
 hf : f ∈ a ∧ f.c = 0 ∧ ∀ y ∈ a, y.c = 0 → y.n ≤ f.n
 hm : foldO 0 r = some (foldF r) ∧ foldO 1 r = some (foldF r)
 hl : ∃ X, foldF r = X ++ [if p1 > p2 then P else Q]
 hP : P.x = tx1 ∧ Q.x = tx2
 sz : a.length ≤ 80
end Rep
end Go.Proofs.YtfmoabgjaclkpaaGreatDoor

namespace Go.Proofs.YtfmoabgjaclkpaaGreatDoor
open Go.ChangeShapes Go.WideShapes Go.ChangeAt Go.RowKit
theorem own : ownKnob Tryz.prog.godebug = none := by kernel_rfl
theorem laidOut : laidOutB Tryz.prog = true := by kernel_rfl
def laidTabs : List (String × DataW Unit) := [("nadir/replica.rootless", Rows.laid_nadir_replica_rootless)]
theorem gTab : Tryz.prog.globalNamed "nadir/replica.rootless" = some 0 := by kernel_rfl
theorem tTab : (Tryz.prog.globals[0]?).map (·.type) = some 70 := by kernel_rfl
theorem door_met (os : Os) (args : Array Value) : laidMetH Tryz.prog laidTabs ((World.doorLaid Tryz.prog 19 os).forCall (fun _ _ => 0) ⟨#[], args, []⟩).memory :=
 laidMetH_of_parts3 (fuel := 8) (laidMet_of_run' 8 (by kernel_rfl) (by kernel_rfl)) (by kernel_rfl) (by kernel_rfl)
set_option maxRecDepth 100000 in
theorem lit_two {t : TypeId} {f0 f1 : Field} {W : World} {fuel : Nat} {cs : Array Value} {z0 z1 : Int} {q : List MemPlace} (hu : Tryz.prog.underlying t = some (.struct #[f0, f1])) (h0 : f0.offset = 0) (h1 : f1.offset = 1) (t0 : f0.type = 3) (t1 : f1.type = 3) (h2 : Tryz.prog.cellsOf t = 2)
  (hf : DataW.trod (fun _ => ()) Tryz.prog W 0 (fun _ => true) false fuel t cs.toList = some (.agg [.lit (.int .i64 z0), .lit (.int .i64 z1)], q)) : cs = #[.int .i64 z0, .int .i64 z1] := by
 obtain ⟨xs, m, rfl, hx, hlen, hxl, hg⟩ := DataW.trod_struct hu hf
 have hone : Tryz.prog.cellsOf 3 = 1 := by kernel_rfl
 have g0 := hg 0 f0 rfl
 have g1 := hg 1 f1 rfl
 rw [h0, t0, hone] at g0
 rw [h1, t1, hone] at g1
 have hl : cs.toList.length = 2 := by rw [hlen, h2]
 obtain ⟨l⟩ := cs
 match l, hl, xs, hxl with
 | [x0, x1], _, [y0, y1], _ =>
  have hx1 := congrArg Prod.fst hx
  simp at hx1
  obtain ⟨n0, hn0, hv0, w0⟩ := DataW.trod_int Tryz.underlying3 (show _ = some y0 from g0)
  obtain ⟨n1, hn1, hv1, w1⟩ := DataW.trod_int Tryz.underlying3 (show _ = some y1 from g1)
  simp at hn0 hn1
  subst hv0; subst hv1; subst hn0; subst hn1
  simp at hx1
  obtain ⟨rfl, rfl⟩ := hx1
  rfl
theorem tab_of_laid {W : World} (h : laidMetH Tryz.prog laidTabs W) : RootAt W := by
 rw [MakeChecks.laidMetH_plain _ _ _ (by kernel_rfl)] at h
 obtain ⟨ps, ⟨g', t', cs, fuel, p, q, hg', ht', hvar, hd, _, _⟩, _⟩ := h
 obtain rfl := Option.some.inj (gTab.symm.trans hg')
 obtain rfl := Option.some.inj (tTab.symm.trans ht')
 obtain rfl := lit_two Tryz.underlying70 rfl rfl rfl rfl (by kernel_rfl) hd
 have h0 := World.var?_cell gTab hvar 0
 have h1 := World.var?_cell gTab hvar 1
 exact ⟨h0, h1, World.block_lt_of_cell? W _ h0⟩
theorem isI_of_wf {n : Int} (h : (Lit.int .i64 n).wf = true) : IsI n := by
 simp [Lit.wf, IntKind.min, IntKind.max, IntKind.signed, IntKind.bits] at h
 exact ⟨by omega, by omega⟩
end Go.Proofs.YtfmoabgjaclkpaaGreatDoor

namespace Go.Proofs.YtfmoabgjaclkpaaGreatDoor
open Go.ChangeShapes Go.WideShapes Go.ChangeAt Go.RowKit Go.Deep
section
variable {H : Type} {enc : TypeId × Value → H} {W : World}
theorem ints_of_array {spare : Nat → Bool} {held : Bool} {t : TypeId} {k fuel : Nat} {cs : List Value} {x : DataW H × List MemPlace} (ht : Tryz.prog.underlying t = some (.array k 3)) (h : DataW.trod enc Tryz.prog W 0 spare held fuel t cs = some x) (hc : cs.length = k) :
  ∃ q : Nat → Int, ∀ j, j < k → cs[j]? = some (.int .i64 (q j)) ∧ IsI (q j) := by
 obtain ⟨xs, m, rfl, hx, hlen, hxl, hg⟩ := DataW.trod_array ht h
 have hone : Tryz.prog.cellsOf 3 = 1 := by kernel_rfl
 have each : ∀ j, j < k → ∃ n : Int, cs[j]? = some (.int .i64 n) ∧ IsI n := fun j hj => by
  have h1 := hg j hj
  rw [hone, Nat.mul_one] at h1
  have hx : xs[j]? = some (xs[j]'(by omega)) := List.getElem?_eq_getElem (by omega)
  rw [hx] at h1
  obtain ⟨n, hn, _, hw⟩ := DataW.trod_int Tryz.underlying3 h1
  have hcj : cs[j]? = some (.int .i64 n) := by
   have e : ((cs.drop j).take 1)[0]? = some (.int .i64 n) := by rw [hn]; rfl
   rw [List.getElem?_take_of_lt (by omega), List.getElem?_drop, Nat.add_zero] at e
   exact e
  exact ⟨n, hcj, isI_of_wf hw⟩
 obtain ⟨q, hq⟩ := choose_lt each
 exact ⟨q, hq⟩
end
def Quads (w : World) (v : Value) : Prop := ∃ (a : Option Addr) (n c : Nat) (q : Nat → Nat → Int), v = .slice a n c ∧ n ≤ c ∧ c ≤ 9223372036854775807 ∧ (a = none → c = 0) ∧ QAt w a n q
section
variable {H : Type} {enc : TypeId × Value → H} {W : World}
set_option maxRecDepth 100000 in
theorem open_quads {b0 : Nat} {v : Value} {d : DataW H} {p : List MemPlace} (hval : Value.okWide Tryz.prog W .any b0 22 v) (h : DataW.Trod enc Tryz.prog W 0 (fun _ => true) true 22 v d p) : Quads W v := by
  obtain ⟨a, n, c, rfl⟩ := okWide_slice Tryz.underlying22 hval
  obtain ⟨fuel, hf⟩ := h
  rcases open_slice Tryz.underlying22 hf with ⟨hcs, _⟩ | ⟨a', len, cap, m, k, D, Pl, hcs, hb, hl, hm, hmm, _, hx⟩
  · simp [Value.cells] at hcs
    obtain ⟨rfl, rfl, rfl⟩ := hcs
    exact ⟨none, 0, 0, fun _ _ => 0, rfl, by omega, by omega, fun _ => rfl, .inl rfl⟩
  · simp [Value.cells] at hcs
    obtain ⟨rfl, rfl, rfl⟩ := hcs
    unfold maxLen at hm
    rcases Nat.eq_zero_or_pos n with h0 | h0
    · exact ⟨_, _, _, fun _ _ => 0, rfl, by omega, by omega, (fun e => by cases e), .inl h0⟩
    · have h4 : Tryz.prog.cellsOf 26 = 4 := by kernel_rfl
      rw [h4] at hx
      simp only [if_true] at hmm
      subst hmm
      have each : ∀ i, i < n → ∃ q : Nat → Int, ∀ j, j < 4 → W.cell? (a'.add (i * 4 + j)) = some (.int .i64 (q j)) ∧ IsI (q j) := fun i hi => by
        obtain ⟨cs', hc1, hc2⟩ := hx i (by omega)
        obtain ⟨_, hcl, hat⟩ := World.cells?_some hc1
        obtain ⟨q, hq⟩ := ints_of_array Tryz.underlying26 hc2 hcl
        refine ⟨q, fun j hj => ⟨?_, (hq j hj).2⟩⟩
        rw [← Go.Deep.add_add, hat j hj]
        exact (hq j hj).1
      obtain ⟨q, hq⟩ := choose_lt each
      obtain ⟨b, off, spot⟩ := a'
      have hspot : spot = none := by have := World.cell?_spot (hq 0 h0 0 (by omega)).1; simpa [Addr.add] using this
      subst hspot
      refine ⟨_, _, _, q, rfl, by omega, by omega, (fun e => by cases e), .inr ⟨b, off, rfl, fun i hi j hj => ?_⟩⟩
      have := hq i hi j hj
      rw [add_plain, ← Nat.add_assoc] at this
      exact this
end
def IntAt (w : World) (a : Option Addr) (n : Nat) (q : Nat → Int) : Prop := n = 0 ∨ ∃ b off, a = some ⟨b, off, none⟩ ∧ ∀ i, i < n → w.cell? ⟨b, off + i, none⟩ = some (.int .i64 (q i)) ∧ IsI (q i)
def Ints1 (w : World) (v : Value) : Prop := ∃ (a : Option Addr) (n c : Nat) (q : Nat → Int), v = .slice a n c ∧ n ≤ c ∧ c ≤ 9223372036854775807 ∧ IntAt w a n q
section
variable {H : Type} {enc : TypeId × Value → H} {W : World}
set_option maxRecDepth 100000 in
theorem open_ints {b0 : Nat} {v : Value} {d : DataW H} {p : List MemPlace} (hval : Value.okWide Tryz.prog W .any b0 54 v) (h : DataW.Trod enc Tryz.prog W 0 (fun _ => true) true 54 v d p) : Ints1 W v := by
  obtain ⟨a, n, c, rfl⟩ := okWide_slice Tryz.underlying54 hval
  obtain ⟨fuel, hf⟩ := h
  rcases open_slice Tryz.underlying54 hf with ⟨hcs, _⟩ | ⟨a', len, cap, m, k, D, Pl, hcs, hb, hl, hm, hmm, _, hx⟩
  · simp [Value.cells] at hcs
    obtain ⟨rfl, rfl, rfl⟩ := hcs
    exact ⟨none, 0, 0, fun _ => 0, rfl, by omega, by omega, .inl rfl⟩
  · simp [Value.cells] at hcs
    obtain ⟨rfl, rfl, rfl⟩ := hcs
    unfold maxLen at hm
    rcases Nat.eq_zero_or_pos n with h0 | h0
    · exact ⟨_, _, _, fun _ => 0, rfl, by omega, by omega, .inl h0⟩
    · have h4 : Tryz.prog.cellsOf 3 = 1 := by kernel_rfl
      rw [h4] at hx
      simp only [if_true] at hmm
      subst hmm
      have each : ∀ i, i < n → ∃ z : Int, W.cell? (a'.add (i * 1)) = some (.int .i64 z) ∧ IsI z := fun i hi => by
        obtain ⟨cs', hc1, hc2⟩ := hx i (by omega)
        obtain ⟨_, hcl, hat⟩ := World.cells?_some hc1
        obtain ⟨z, hz, _, hw⟩ := DataW.trod_int Tryz.underlying3 hc2
        refine ⟨z, ?_, isI_of_wf hw⟩
        have := hat 0 (by omega)
        rw [hz] at this
        simpa [Addr.add] using this
      obtain ⟨q, hq⟩ := choose_lt each
      obtain ⟨b, off, spot⟩ := a'
      have hspot : spot = none := by have := World.cell?_spot (hq 0 h0).1; simpa [Addr.add] using this
      subst hspot
      refine ⟨_, _, _, q, rfl, by omega, by omega, .inr ⟨b, off, rfl, fun i hi => ?_⟩⟩
      have := hq i hi
      rw [Nat.mul_one, add_plain] at this
      exact this
end
end Go.Proofs.YtfmoabgjaclkpaaGreatDoor

namespace Go.Proofs.YtfmoabgjaclkpaaGreatDoor
set_option maxRecDepth 1000000
set_option maxHeartbeats 4000000
set_option synthInstance.maxHeartbeats 0
set_option synthInstance.maxSize 9999
open Go.RowKit
theorem SameRecords_r {w1 w2 : World} {a1 a2 : Option Addr} {n1 n2 : Nat} {l1 l2 : List Rec} {r : Bool} (c1 c2 : Nat) (w : World) (H1 : RecsAt w1 a1 n1 l1) (e1 : Ext w1 w) (H2 : RecsAt w2 a2 n2 l2) (e2 : Ext w2 w) (hr : decide (l1 = l2) = r) : Calls Tryz.prog 15 #[.slice a1 n1 c1, .slice a2 n2 c2] w fun e w' => e = .returned (.bool r) ∧ Ext w w' := hr ▸ SameRecords_c c1 c2 w H1 e1 H2 e2
namespace Rep
theorem Meet.last {L0 L1 a b p q r : List Rec} {f P Q : Rec} {p1 p2 n : Nat} (h : Meet L0 L1 a b p q r f P Q p1 p2) (hn : (foldF r).length = n) : 0 < n ∧ recN (foldF r) (n - 1) = if p1 > p2 then P else Q := by
 obtain ⟨X, hX⟩ := h.hl
 have e : lastR (foldF r) = if p1 > p2 then P else Q := by rw [hX]; exact lastR_app
 unfold lastR at e
 rw [hn] at e
 refine ⟨?_, e⟩
 rw [← hn, hX, List.length_append, List.length_singleton]; exact Nat.succ_pos _
end Rep
end Go.Proofs.YtfmoabgjaclkpaaGreatDoor

namespace Go.Proofs.YtfmoabgjaclkpaaGreatDoor
namespace Rep
theorem more_miss {l1 l2 : List Rec} {x : Rec} (h : x ∈ more l1 l2) : findK l1 (x.c, x.n) = none := by
 unfold more at h
 rw [List.mem_filter, Bool.not_eq_true', Bool.eq_false_iff, Ne, hasK_iff] at h
 cases hf : findK l1 (x.c, x.n) with
 | none => rfl
 | some y => exact absurd ⟨y, (findK_some hf).1, (findK_some hf).2⟩ h.2
theorem more_sub {l1 l2 : List Rec} : ∀ x ∈ more l1 l2, x ∈ l2 := fun _x h => (List.mem_filter.1 h).1
structure Keep2 (a b : List Rec) (c d : Int) : Prop where
 m : mergeF c a d b = some (unionF a b)
 bh : behindF c a d b = some (more a b)
 z : behindF c (unionF a b) d b = some []
 k1 : keepsB (unionF a b) a = true
 k2 : keepsB (unionF a b) b = true
 k3 : keepsB b (more a b) = true
 len : (unionF a b).length = a.length + (more a b).length
 mi : ∀ x ∈ more a b, findK a (x.c, x.n) = none
 kd : keysD (unionF a b)
 kb : keysD b
theorem keep_merge {U a b : List Rec} (hU : keysD U) (h : In U a) (k : In U b) {c d : Int} (hc : 0 ≤ c ∧ c ≤ 15) (hd : 0 ≤ d ∧ d ≤ 15) (hn : U.length ≤ 80) : Keep2 a b c d := by
 have u := h.union hU k
 refine ⟨h.merge hU k hc hd hn, h.behind hU k hc hd hn, ?_, keeps_t fun x hx => (h.mem hU k).2 (.inl hx), keeps_t fun x hx => (h.mem hU k).2 (.inr hx), keeps_t more_sub, (h.uni hU k).len h.vd.srt k.vd.srt (h.cons hU k), fun x hx => more_miss hx, u.vd.keys, k.vd.keys⟩
 rw [u.behind hU k hc hd hn]
 congr 1
 refine List.eq_nil_iff_forall_not_mem.2 fun x hx => ?_
 obtain ⟨h1, h2⟩ := (mem_more (u.cons hU k)).1 hx
 exact h2 ((h.mem hU k).2 (.inr h1))
theorem Tri.keep {L : Nat → List Rec} (h : Tri 24 L) {i k : Nat} (hi : i < 3) (hk : k < 3) : Keep2 (L i) (L k) i k := by
 obtain ⟨U, hU, hUl, hUp, hIn⟩ := h.ex
 exact keep_merge hU (hIn i hi) (hIn k hk) (by omega) (by omega) (by omega)
end Rep
end Go.Proofs.YtfmoabgjaclkpaaGreatDoor

namespace Go.Proofs.YtfmoabgjaclkpaaGreatDoor
set_option maxRecDepth 1000000
set_option maxHeartbeats 4000000
set_option synthInstance.maxHeartbeats 0
set_option synthInstance.maxSize 9999
open Go.RowKit
end Go.Proofs.YtfmoabgjaclkpaaGreatDoor

namespace Go.Proofs.YtfmoabgjaclkpaaGreatDoor
namespace Rep
end Rep
end Go.Proofs.YtfmoabgjaclkpaaGreatDoor

namespace Go.Proofs.YtfmoabgjaclkpaaGreatDoor
set_option maxRecDepth 1000000
set_option maxHeartbeats 4000000
set_option synthInstance.maxHeartbeats 0
set_option synthInstance.maxSize 9999
open Go.RowKit
theorem RecsAt.lit {w : World} {O : Nat} {x : Rec} (h0 : BoxAt w O 0 (.int .i64 x.c)) (h1 : BoxAt w O 1 (.int .i64 x.n)) (h2 : BoxAt w O 2 (.int .i64 x.t)) (h3 : BoxAt w O 3 (.int .i64 x.o)) (h4 : BoxAt w O 4 (.int .i64 x.w)) (h5 : BoxAt w O 5 (.int .i64 x.k)) (h6 : BoxAt w O 6 (.string x.x)) : RecsAt w (some ⟨O, 0, none⟩) 1 [x] :=
 RecsW.at ⟨fun i y hy => by
  match i, hy with
  | 0, hy => cases hy; exact ⟨h0, h1, h2, h3, h4, h5, h6⟩
  | i + 1, hy => simp at hy⟩ rfl (by decide)
namespace Rep
theorem keysD.take {l : List Rec} (h : keysD l) (k : Nat) : keysD (l.take k) := List.Pairwise.sublist (List.take_sublist _ _) h
end Rep
end Go.Proofs.YtfmoabgjaclkpaaGreatDoor

namespace Go.Proofs.YtfmoabgjaclkpaaGreatDoor
namespace Rep
end Rep
end Go.Proofs.YtfmoabgjaclkpaaGreatDoor

namespace Go.Proofs.YtfmoabgjaclkpaaGreatDoor
set_option maxRecDepth 1000000
set_option maxHeartbeats 4000000
set_option synthInstance.maxHeartbeats 0
set_option synthInstance.maxSize 9999
open Go.RowKit
def BytW (w : World) (g n : Nat) : Prop := ∀ i, i < n → ∃ b : UInt8, BoxAt w g i (.int .u8 ((b.toNat : Nat) : Int))
theorem BytW.ext {w w' : World} {g n : Nat} (h : BytW w g n) (e : Ext w w') : BytW w' g n := fun i hi => by obtain ⟨b, hb⟩ := h i hi; exact ⟨b, BoxAt.ext e hb⟩
theorem BytW.set {w X : World} {g n p : Nat} {b : UInt8} (h : BytW w g n) (hv : BoxAt X g p (.int .u8 ((b.toNat : Nat) : Int))) (hk : ∀ i x, i ≠ p → BoxAt w g i x → BoxAt X g i x) : BytW X g n := fun i hi => by
 by_cases e : i = p
 · subst e; exact ⟨b, hv⟩
 · obtain ⟨c, hc⟩ := h i hi; exact ⟨c, hk i _ e hc⟩
end Go.Proofs.YtfmoabgjaclkpaaGreatDoor

namespace Go.Proofs.YtfmoabgjaclkpaaGreatDoor
namespace Rep
end Rep
end Go.Proofs.YtfmoabgjaclkpaaGreatDoor

namespace Go.Proofs.YtfmoabgjaclkpaaGreatDoor
set_option maxRecDepth 1000000
set_option maxHeartbeats 4000000
set_option synthInstance.maxHeartbeats 0
set_option synthInstance.maxSize 9999
open Go.RowKit
end Go.Proofs.YtfmoabgjaclkpaaGreatDoor

namespace Go.Proofs.YtfmoabgjaclkpaaGreatDoor
namespace Rep
def Has (a b : List Rec) : Prop := ∀ x ∈ b, x ∈ a
structure Now (U : List Rec) (L N : Nat → List Rec) : Prop where
 inn : ∀ j, j < 3 → In U (N j)
 has : ∀ j, j < 3 → Has (N j) (L j)
theorem Now.set {U : List Rec} (hU : keysD U) {L N : Nat → List Rec} (h : Now U L N) {a b : Nat} (ha : a < 3) (hb : b < 3) : Now U L (updL N a (unionF (N a) (N b))) := by
  refine ⟨fun j hj => ?_, fun j hj => ?_⟩
  · by_cases e : j = a
    · subst e; rw [updL_same]; exact (h.inn j hj).union hU (h.inn b hb)
    · rw [updL_ne e]; exact h.inn j hj
  · by_cases e : j = a
    · subst e; rw [updL_same]; exact fun x hx => ((h.inn j hj).mem hU (h.inn b hb)).2 (.inl (h.has j hj x hx))
    · rw [updL_ne e]; exact h.has j hj
structure All3 (U : List Rec) (L : Nat → List Rec) (A : List Rec) : Prop where
 kd : keysD U
 len : U.length ≤ 24
 inn : ∀ j, j < 3 → In U (L j)
 a : In U A
 all : Has A U
 mab : mergeF 0 (L 0) 1 (L 1) = some (unionF (L 0) (L 1))
 mba : mergeF 1 (L 1) 0 (L 0) = some (unionF (L 0) (L 1))
 mbc : mergeF 1 (L 1) 2 (L 2) = some (unionF (L 1) (L 2))
 ml : mergeF 0 (unionF (L 0) (L 1)) 2 (L 2) = some A
 mr : mergeF 0 (L 0) 1 (unionF (L 1) (L 2)) = some A
 mag : mergeF 0 A 1 (unionF (L 1) (L 2)) = some A
theorem Tri.all {L : Nat → List Rec} (h : Tri 24 L) : ∃ U A, All3 U L A := by
 obtain ⟨U, hU, hUl, hUp, hIn⟩ := h.ex
 have i0 := hIn 0 (by decide); have i1 := hIn 1 (by decide); have i2 := hIn 2 (by decide)
 have iab := i0.union hU i1; have ibc := i1.union hU i2; have iA := iab.union hU i2
 have n : U.length ≤ 80 := by omega
 have e1 : unionF (L 1) (L 0) = unionF (L 0) (L 1) := (i1.union hU i0).eq iab fun x => by rw [i1.mem hU i0, i0.mem hU i1]; exact or_comm
 have e2 : unionF (L 0) (unionF (L 1) (L 2)) = unionF (unionF (L 0) (L 1)) (L 2) := (i0.union hU ibc).eq iA fun x => by rw [i0.mem hU ibc, i1.mem hU i2, iab.mem hU i2, i0.mem hU i1]; exact or_assoc.symm
 have e3 : unionF (unionF (unionF (L 0) (L 1)) (L 2)) (unionF (L 1) (L 2)) = unionF (unionF (L 0) (L 1)) (L 2) := (iA.union hU ibc).eq iA fun x => by
  rw [iA.mem hU ibc, iab.mem hU i2, i0.mem hU i1, i1.mem hU i2]
  exact ⟨fun q => q.elim id fun q => q.elim (fun z => .inl (.inr z)) .inr, .inl⟩
 refine ⟨U, unionF (unionF (L 0) (L 1)) (L 2), hU, hUl, hIn, iA, fun x hx => ?_, i0.merge hU i1 (by omega) (by omega) n, by rw [← e1]; exact i1.merge hU i0 (by omega) (by omega) n, i1.merge hU i2 (by omega) (by omega) n, iab.merge hU i2 (by omega) (by omega) n, by rw [← e2]; exact i0.merge hU ibc (by omega) (by omega) n, (iA.merge hU ibc (c := 0) (d := 1) (by omega) (by omega) n).trans (by rw [e3])⟩
 obtain ⟨_, k, hk, _, q⟩ := hUp x hx
 rw [iab.mem hU i2, i0.mem hU i1]
 match k, hk, q with
 | 0, _, q => exact .inl (.inl q)
 | 1, _, q => exact .inl (.inr q)
 | 2, _, q => exact .inr q
 | k + 3, hk, _ => omega
theorem All3.start {U : List Rec} {L : Nat → List Rec} {A : List Rec} (h : All3 U L A) : Now U L L := ⟨h.inn, fun _ _ _ hx => hx⟩
theorem All3.merge {U : List Rec} {L N : Nat → List Rec} {A : List Rec} (h : All3 U L A) (hn : Now U L N) {a b : Nat} (ha : a < 3) (hb : b < 3) : mergeF a (N a) b (N b) = some (unionF (N a) (N b)) := (hn.inn a ha).merge h.kd (hn.inn b hb) (by omega) (by omega) (by have := h.len; omega)
theorem All3.last {U : List Rec} {L N : Nat → List Rec} {A : List Rec} (h : All3 U L A) (hn : Now U L N) {k : Nat} (hk : k < 3) : mergeF k (N k) 0 A = some A := by
 rw [(hn.inn k hk).merge h.kd h.a (by omega) (by omega) (by have := h.len; omega)]
 congr 1
 refine ((hn.inn k hk).union h.kd h.a).eq h.a fun x => ?_
 rw [(hn.inn k hk).mem h.kd h.a]
 exact ⟨fun q => q.elim (fun z => h.all x ((hn.inn k hk).sub x z)) id, .inr⟩
theorem All3.full {U : List Rec} {L : Nat → List Rec} {A l : List Rec} (h : All3 U L A) (hi : In U l) (hf : Has l U) : l = A := hi.eq h.a fun x => ⟨fun q => h.all x (hi.sub x q), fun q => hf x (h.a.sub x q)⟩
end Rep
end Go.Proofs.YtfmoabgjaclkpaaGreatDoor

namespace Go.Proofs.YtfmoabgjaclkpaaGreatDoor
open Go.RowKit
abbrev Raw := Nat × Slc
def Raw.cells (x : Raw) : List Value := [.int .i64 ((x.1 : Nat) : Int), .slice x.2.1 x.2.2.1 x.2.2.2]
def rawR : Rep Raw where
 rel _ c x F := c = x.cells ∧ F = []
 keep := fun h _ => h
 lt := by rintro w c x F ⟨_, rfl⟩ b hb; cases hb
theorem rawT : ElemT Tryz.prog 28 25 (.agg #[.int .i64 0, .slice none 0 0]) 2 32 := ⟨Tryz.underlying28, by kernel_rfl, rfl, by decide⟩
def RawsB (w : World) (b o : Nat) (l : List Raw) : Prop := ∀ j x, l[j]? = some x → w.cell? ⟨b, o + j * 2, none⟩ = some (.int .i64 ((x.1 : Nat) : Int)) ∧ w.cell? ⟨b, o + j * 2 + 1, none⟩ = some (.slice x.2.1 x.2.2.1 x.2.2.2)
theorem RawsB.ext {w w' : World} {b o : Nat} {l : List Raw} (h : RawsB w b o l) (e : Ext w w') : RawsB w' b o l := fun j x hx => ⟨e.cell (h j x hx).1, e.cell (h j x hx).2⟩
theorem raws_cells {w : World} {b o : Nat} : ∀ {l : List Raw}, RawsB w b o l → ∀ j u, (l.map Raw.cells).flatten[j]? = some u → w.cell? ⟨b, o + j, none⟩ = some u
 | [], _, j, u, hu => by simp at hu
 | x :: l, h, 0, u, hu => by simp [Raw.cells] at hu; subst hu; exact (h 0 x rfl).1
 | x :: l, h, 1, u, hu => by simp [Raw.cells] at hu; subst hu; exact (h 0 x rfl).2
 | x :: l, h, j + 2, u, hu => by
  have hr : RawsB w b (o + 2) l := fun i y hy => by
   have := h (i + 1) y hy
   rwa [show o + (i + 1) * 2 = o + 2 + i * 2 by omega] at this
  have := raws_cells hr j u (by simpa [Raw.cells] using hu)
  rwa [show o + 2 + j = o + (j + 2) by omega] at this
theorem own_appMo {α : Type} {R : Rep α} {P : Program} {t ty e : TypeId} {z : Value} {size bytes : Nat} (E : ElemT P t e z size bytes) {n₀ : Nat} {v : Value} {w : World} {l : List α} (h : OwnL R n₀ e size v w l) (hn : n₀ ≤ w.heap.size) {k : Nat} (hl : l.length = k)
    {O o c m : Nat} {xs : List α} {ds : List (List Value)} (hm : xs.length = m) (h0 : 0 < m) (hds : ds.length = m) (hsz : ∀ d ∈ ds, d.length = size) (hcell : ∀ j u, ds.flatten[j]? = some u → w.cell? ⟨O, o + j, none⟩ = some u) (h1 : ∀ d ∈ ds, ∀ u ∈ d, u.oneCell' = true)
    (hR : ∀ (j : Nat) x d, xs[j]? = some x → ds[j]? = some d → ∃ F, R.rel w d x F ∧ ∀ b ∈ F, v.ownBlock ≠ some b) (hb : (k + m) * bytes ≤ 140737488355328) (hmax : k + m ≤ 9223372036854775807) :
    ∃ g cap w', (Builtin.append_ #[t, t] ty #[v, .slice (some ⟨O, o, none⟩) m c]).run P w = .ok (.slice (some ⟨g, 0, none⟩) (k + m) cap) w' ∧ OwnL R n₀ e size (.slice (some ⟨g, 0, none⟩) (k + m) cap) w' (l ++ xs) ∧ Grew n₀ w w' ∧ w.grownBy w' v.ownBlock := by
  subst hl
  obtain ⟨cs, h2, h3, h4, h5⟩ := h
  obtain ⟨i, hi, hz0, hz1, hz2⟩ := info_parts E.info
  obtain ⟨v', w', hrun, hown, hg, hiff, hat⟩ := run_append_own_at (P := P) w n₀ t ty e i z size bytes E.under hi hz0 hz1 hz2 E.zs E.pos v l.length cs.flatten h4 ⟨O, o, none⟩ m c ds.flatten (by rw [flatten_len hsz, hds]) (fun j u hj => by
    rw [Addr.add_mid]; exact hcell j u hj) (fun u hu => by obtain ⟨d, hd, hu⟩ := List.mem_flatten.1 hu; exact h1 d hd u hu) (by unfold maxLen; exact hmax) hb hn
  have hnb : ∀ F : List Nat, (∀ b ∈ F, v.ownBlock ≠ some b) → (∀ b ∈ F, b < w.heap.size) → (∀ b ∈ F, v'.ownBlock ≠ some b) ∧ ∀ b ∈ F, ∀ o u, w.cell? ⟨b, o, none⟩ = some u → w'.cell? ⟨b, o, none⟩ = some u := by
    intro F hF hFl
    refine ⟨fun b hbF hv' => ?_, fun b hbF o u hu => hg.cell hu (fun e => hF b hbF e.symm)⟩
    rcases hat with e1 | e1
    · exact hF b hbF (by rw [← e1]; exact hv')
    · rw [e1] at hv'; cases hv'; have := hFl _ hbF; omega
  have hO : OwnL R n₀ e size v' w' (l ++ xs) := ⟨cs ++ ds, by simp [h2, hds, hm], by
      intro y hy
      rcases List.mem_append.1 hy with hy | hy
      · exact h3 y hy
      · exact hsz y hy, by rw [List.flatten_append, List.length_append, hm]; exact hown, by
      intro j y c hx hc
      rcases Nat.lt_or_ge j l.length with hj | hj
      · rw [List.getElem?_append_left hj] at hx
        rw [List.getElem?_append_left (by rw [h2]; exact hj)] at hc
        obtain ⟨F, q1, q2⟩ := h5 j y c hx hc
        obtain ⟨k1, k2⟩ := hnb F q2 (R.lt q1)
        exact ⟨F, R.keep q1 k2, k1⟩
      · rw [List.getElem?_append_right hj] at hx
        rw [List.getElem?_append_right (by rw [h2]; exact hj), h2] at hc
        obtain ⟨F, q1, q2⟩ := hR _ y c hx hc
        obtain ⟨k1, k2⟩ := hnb F q2 (R.lt q1)
        exact ⟨F, R.keep q1 k2, k1⟩⟩
  rcases hown.2 with ⟨q, _⟩ | ⟨g, cap, cur, q, _, _, q3, _⟩
  · have := (hiff.1 q).2; omega
  · subst q
    exact ⟨g, cap, w', hrun, hO, ⟨hg.size, fun U hU hUn => Ext.own' hU h4 hUn hg⟩, hg⟩
theorem app_raws {n₀ k c0 g0 m c : Nat} {w : World} {l xs : List Raw} {sa : Option Addr} (h : OwnL rawR n₀ 25 2 (.slice (some ⟨g0, 0, none⟩) k c0) w l) (hn : n₀ ≤ w.heap.size) (hl : l.length = k) (hk : k ≤ c0) (hxs : xs.length = m) (hs : m = 0 ∨ ∃ b o, sa = some ⟨b, o, none⟩ ∧ RawsB w b o xs) (hb : k + m ≤ 1000) :
    ∃ g cap w', (Builtin.append_ #[28, 28] 28 #[.slice (some ⟨g0, 0, none⟩) k c0, .slice sa m c]).run Tryz.prog w = .ok (.slice (some ⟨g, 0, none⟩) (k + m) cap) w' ∧ OwnL rawR n₀ 25 2 (.slice (some ⟨g, 0, none⟩) (k + m) cap) w' (l ++ xs) ∧ Grew n₀ w w' ∧ w.grownBy w' (Value.slice (some ⟨g0, 0, none⟩) k c0).ownBlock ∧ k + m ≤ cap := by
  rcases Nat.eq_zero_or_pos m with h0 | h0
  · subst h0
    obtain rfl := List.eq_nil_of_length_eq_zero hxs
    exact ⟨g0, c0, w, app_none rawT hk, by rw [List.append_nil]; exact h, ⟨Nat.le_refl _, fun U hU _ => hU⟩, ⟨rfl, rfl, rfl, Nat.le_refl _, fun _ _ _ => rfl⟩, hk⟩
  · rcases hs with hs | ⟨b, o, rfl, hx⟩
    · omega
    obtain ⟨g, cap, w', h1, h2, h3, h4⟩ := own_appMo (P := Tryz.prog) (ty := 28) rawT h hn hl (O := b) (o := o) (c := c) (m := m) (xs := xs) (ds := xs.map Raw.cells) hxs h0 (by rw [List.length_map, hxs]) (fun d hd => by obtain ⟨x, _, rfl⟩ := List.mem_map.1 hd; rfl) (raws_cells hx) (fun d hd u hu => by
      obtain ⟨x, _, rfl⟩ := List.mem_map.1 hd
      simp [Raw.cells] at hu
      rcases hu with rfl | rfl <;> rfl) (fun j a d ha hd => by
      rw [List.getElem?_map, ha] at hd
      exact ⟨[], ⟨(Option.some.inj hd).symm, rfl⟩, fun b hb => by cases hb⟩) (by omega) (by omega)
    refine ⟨g, cap, w', h1, h2, h3, h4, own_capR h2 (by rw [List.length_append, hl, hxs])⟩
theorem own_raws {n₀ g n cap : Nat} {w : World} {l : List Raw} (h : OwnL rawR n₀ 25 2 (.slice (some ⟨g, 0, none⟩) n cap) w l) (hl : l.length = n) : RawsB w g 0 l := fun i x hx => by
  subst hl
  obtain ⟨cs, h1, h2, h3, h4⟩ := h
  have hi : i < l.length := (List.getElem?_eq_some_iff.1 hx).1
  have hc := List.getElem?_eq_getElem (l := cs) (i := i) (by omega)
  obtain ⟨F, ⟨e1, _⟩, _⟩ := h4 i _ _ hx hc
  have f0 := flatten_get h2 i hc 0 (by omega)
  have f1 := flatten_get h2 i hc 1 (by omega)
  rw [e1] at f0 f1
  rcases h3.2 with ⟨q, _⟩ | ⟨g', cap', cur, q, _⟩
  · cases q
  · injection q with q1 q2 q3
    injection q1 with q1
    injection q1 with q1
    subst q1
    have hz0 := h3.cellAt (i * 2) (by omega)
    have hz1 := h3.cellAt (i * 2 + 1) (by omega)
    rw [Nat.zero_add]
    exact ⟨by rw [hz0]; exact f0, by rw [hz1]; exact f1⟩
def Now3 (w : World) (b : Nat) (R : List Raw) (N : Nat → List Rec) : Prop := R.length = 3 ∧ RawsB w b 0 R ∧ ∀ j, j < 3 → ∃ a n c, R[j]? = some (j, (a, n, c)) ∧ RecsAt w a n (N j) ∧ n ≤ c
theorem Now3.ext {w w' : World} {b : Nat} {R : List Raw} {N : Nat → List Rec} (h : Now3 w b R N) (e : Ext w w') : Now3 w' b R N := ⟨h.1, h.2.1.ext e, fun j hj => by
 obtain ⟨a, n, c, h1, h2, h3⟩ := h.2.2 j hj
 exact ⟨a, n, c, h1, h2.ext e, h3⟩⟩
theorem Now3.at {w : World} {b : Nat} {R : List Raw} {N : Nat → List Rec} (h : Now3 w b R N) {j : Nat} (hj : j < 3) : ∃ a n c, w.cell? ⟨b, j * 2, none⟩ = some (.int .i64 ((j : Nat) : Int)) ∧ w.cell? ⟨b, j * 2 + 1, none⟩ = some (.slice a n c) ∧ RecsAt w a n (N j) ∧ n ≤ c := by
 obtain ⟨a, n, c, h1, h2, h3⟩ := h.2.2 j hj
 have := h.2.1 j _ h1
 rw [Nat.zero_add] at this
 exact ⟨a, n, c, this.1, this.2, h2, h3⟩
theorem Now3.of {w : World} {B : Nat} {L : Nat → List Rec} (h : TriW w B L) : ∃ R, Now3 w B R L := by
  obtain ⟨a0, n0, c0, p0, q0, r0, s0, _⟩ := h 0 (by decide)
  obtain ⟨a1, n1, c1, p1, q1, r1, s1, _⟩ := h 1 (by decide)
  obtain ⟨a2, n2, c2, p2, q2, r2, s2, _⟩ := h 2 (by decide)
  refine ⟨[(0, (a0, n0, c0)), (1, (a1, n1, c1)), (2, (a2, n2, c2))], rfl, fun j x hx => ?_, fun j hj => ?_⟩
  · match j, hx with
    | 0, hx => cases hx; exact ⟨p0.1, q0.1⟩
    | 1, hx => cases hx; exact ⟨p1.1, q1.1⟩
    | 2, hx => cases hx; exact ⟨p2.1, q2.1⟩
    | _ + 3, hx => simp at hx
  · match j, hj with
    | 0, _ => exact ⟨_, _, _, rfl, r0, s0⟩
    | 1, _ => exact ⟨_, _, _, rfl, r1, s1⟩
    | 2, _ => exact ⟨_, _, _, rfl, r2, s2⟩
    | _ + 3, h => omega
theorem Now3.set {w : World} {b g : Nat} {R : List Raw} {N : Nat → List Rec} (h : Now3 w b R N) {k : Nat} (hk : k < 3) {a : Option Addr} {n c : Nat} {l : List Rec} (hl : RecsAt w a n l) (hc : n ≤ c) (hR : RawsB w g 0 (R.take k ++ [(k, (a, n, c))] ++ R.drop (k + 1))) : Now3 w g (R.take k ++ [(k, (a, n, c))] ++ R.drop (k + 1)) (Rep.updL N k l) := by
  have h3 := h.1
  refine ⟨by simp; omega, hR, fun j hj => ?_⟩
  have ht : (R.take k).length = k := by rw [List.length_take]; omega
  rcases Nat.lt_trichotomy j k with q | q | q
  · obtain ⟨a', n', c', h1, h2, h4⟩ := h.2.2 j hj
    rw [Rep.updL_ne (by omega)]
    refine ⟨a', n', c', ?_, h2, h4⟩
    rw [List.append_assoc, List.getElem?_append_left (by omega), List.getElem?_take_of_lt q]; exact h1
  · subst q
    rw [Rep.updL_same]
    refine ⟨a, n, c, ?_, hl, hc⟩
    rw [List.append_assoc, List.getElem?_append_right (by omega), ht, Nat.sub_self]; rfl
  · obtain ⟨a', n', c', h1, h2, h4⟩ := h.2.2 j hj
    rw [Rep.updL_ne (by omega)]
    refine ⟨a', n', c', ?_, h2, h4⟩
    rw [List.getElem?_append_right (by simp; omega), List.length_append, ht, List.length_singleton, List.getElem?_drop, show k + 1 + (j - (k + 1)) = j by omega]; exact h1
theorem RawsB.take {w : World} {b o : Nat} {l : List Raw} (h : RawsB w b o l) (k : Nat) : RawsB w b o (l.take k) := fun j x hx => h j x (by
 rw [List.getElem?_take] at hx
 split at hx
 · exact hx
 · cases hx)
theorem RawsB.drop {w : World} {b o : Nat} {l : List Raw} (h : RawsB w b o l) (k : Nat) : RawsB w b (o + k * 2) (l.drop k) := fun j x hx => by
 rw [List.getElem?_drop] at hx
 have := h (k + j) x hx
 rwa [show o + (k + j) * 2 = o + k * 2 + j * 2 by omega] at this
instance {w w' : World} {g : Nat} {R : List Raw} {N : Nat → List Rec} : MvC w w' (Now3 w g R N) (Now3 w' g R N) := ⟨fun e h => h.ext e⟩
end Go.Proofs.YtfmoabgjaclkpaaGreatDoor

namespace Go.Proofs.YtfmoabgjaclkpaaGreatDoor
open Go.RowKit
structure IB (w : World) (b o n : Nat) (q : Nat → Int) : Prop where
 at_ : ∀ i, i < n → w.cell? ⟨b, o + i, none⟩ = some (.int .i64 (q i)) ∧ IsI (q i)
theorem IB.ext {w w' : World} {b o n : Nat} {q : Nat → Int} (h : IB w b o n q) (hE : Ext w w') : IB w' b o n q := ⟨fun i hi => ⟨hE.cell (h.at_ i hi).1, (h.at_ i hi).2⟩⟩
theorem IntAt.parts {w : World} {a : Option Addr} {n : Nat} {q : Nat → Int} (h : IntAt w a n q) : ∃ b o, (0 < n → a = some ⟨b, o, none⟩) ∧ (0 < n → b < w.heap.size) ∧ IB w b o n q := by
 rcases h with h | ⟨b, o, ha, hc⟩
 · exact ⟨0, 0, fun q => by omega, fun q => by omega, ⟨fun i hi => by omega⟩⟩
 · exact ⟨b, o, fun _ => ha, fun h0 => World.block_lt_of_cell? _ _ (hc 0 h0).1, ⟨hc⟩⟩
theorem isI_tdiv3 {c : Int} (h : IsI c) : IsI (c.tdiv 3) := by
  unfold IsI at *
  rcases Int.lt_or_le c 0 with q | q
  · have h1 : c.tdiv 3 = -((-c).tdiv 3) := by rw [Int.neg_tdiv, Int.neg_neg]
    have h2 := Int.tdiv_eq_ediv_of_nonneg (a := -c) (b := 3) (by omega)
    omega
  · have h2 := Int.tdiv_eq_ediv_of_nonneg (a := c) (b := 3) q
    omega
theorem rSame_r {w1 w2 : World} {a1 a2 : Option Addr} {n1 n2 : Nat} {l1 l2 : List Rec} {c1 c2 : Int} {r : Bool} (k1 k2 : Nat) (w : World) (H1 : RecsAt w1 a1 n1 l1) (e1 : Ext w1 w) (H2 : RecsAt w2 a2 n2 l2) (e2 : Ext w2 w) (hr : decide (c1 = c2 ∧ l1 = l2) = r) : Calls Tryz.prog 20 #[.agg #[.int .i64 c1, .slice a1 n1 k1], .agg #[.int .i64 c2, .slice a2 n2 k2]] w fun e w' => e = .returned (.bool r) ∧ Ext w w' := hr ▸ rSame_c k1 k2 w H1 e1 H2 e2
theorem sn_set2C {P : Program} {ev : Operand → Value} {oi : Oper} {w : World} {N : Value → World → Prop} {O j : Nat} {u u' v v' : Value} (h1 : (execOp ev oi).run P w = .ok .skip ((w.setCell ⟨O, j, none⟩ v).setCell ⟨O, j + 1, none⟩ v')) (hO : BoxAt w O j u) (hO' : BoxAt w O (j + 1) u')
  (h : ∀ X, Turns O w X → BoxAt X O j v → BoxAt X O (j + 1) v' → (∀ b i, ¬ (b = O ∧ (i = j ∨ i = j + 1)) → X.cell? ⟨b, i, none⟩ = w.cell? ⟨b, i, none⟩) → N undef X) : StepN P ev oi w N := by
 have k : ∀ (W : World) (j : Nat) (u v : Value), BoxAt W O j u → BoxAt (W.setCell ⟨O, j, none⟩ v) O j v := fun W j u v hO => ⟨by have := hO.1; simp [go_sem, this], by have := hO.2; simpa [go_sem] using this⟩
 have k2 : ∀ (W : World) (j i : Nat) (x v : Value), i ≠ j → BoxAt W O i x → BoxAt (W.setCell ⟨O, j, none⟩ v) O i x := fun W j i x v hi hx => ⟨by rw [World.cell?_setCell_other W _ _ _ (fun e => hi (congrArg Addr.off e).symm)]; exact hx.1, by simp [go_sem, hx.2]⟩
 refine sn_skp h1 (h _ ((turns_set _ _ _ _).trans (turns_set _ _ _ _)) (k2 _ _ _ _ _ (by omega) (k _ _ _ _ hO)) (k _ _ _ _ (k2 _ _ _ _ _ (by omega) hO')) fun b i hn => ?_)
 rw [World.cell?_setCell_other _ _ _ _ (fun e => hn ⟨(congrArg Addr.block e).symm, .inr (congrArg Addr.off e).symm⟩), World.cell?_setCell_other _ _ _ _ (fun e => hn ⟨(congrArg Addr.block e).symm, .inl (congrArg Addr.off e).symm⟩)]
theorem RecAt.keep2 {w X : World} {O b o : Nat} {x : Rec} {a : Option Addr} {n c : Nat} (h : RecAt w b o x) (hs : w.cell? ⟨O, 1, none⟩ = some (.slice a n c)) (hk : ∀ b i, ¬ (b = O ∧ (i = 0 ∨ i = 0 + 1)) → X.cell? ⟨b, i, none⟩ = w.cell? ⟨b, i, none⟩) : RecAt X b o x := by
 have h2 : b = O → 2 ≤ o := fun e => by
  subst e
  match o, h with
  | 0, h => have := h.2.1; rw [Nat.zero_add, hs] at this; cases this
  | 1, h => have := h.1; rw [hs] at this; cases this
  | o + 2, _ => omega
 have h3 : ∀ i, o ≤ i → X.cell? ⟨b, i, none⟩ = w.cell? ⟨b, i, none⟩ := fun i hi => hk b i fun q => by have := h2 q.1; omega
 unfold RecAt at *
 rw [h3 _ (Nat.le_refl _), h3 _ (Nat.le_add_right _ _), h3 _ (Nat.le_add_right _ _), h3 _ (Nat.le_add_right _ _), h3 _ (Nat.le_add_right _ _), h3 _ (Nat.le_add_right _ _), h3 _ (Nat.le_add_right _ _)]
 exact h
theorem RecsAt.keep2 {w X : World} {O : Nat} {s : Option Addr} {m : Nat} {l : List Rec} {a : Option Addr} {n c : Nat} (h : RecsAt w s m l) (hs : w.cell? ⟨O, 1, none⟩ = some (.slice a n c)) (hk : ∀ b i, ¬ (b = O ∧ (i = 0 ∨ i = 0 + 1)) → X.cell? ⟨b, i, none⟩ = w.cell? ⟨b, i, none⟩) : RecsAt X s m l :=
 ⟨h.len, h.max, h.pl, h.at_.imp id fun ⟨b, o, ha, hx⟩ => ⟨b, o, ha, ⟨fun i x hi => (hx.at_ i x hi).keep2 hs hk⟩⟩⟩
theorem Now3.keep2 {w X : World} {O g : Nat} {R : List Raw} {N : Nat → List Rec} {a : Option Addr} {n c : Nat} (h : Now3 w g R N) (hs : w.cell? ⟨O, 1, none⟩ = some (.slice a n c)) (hk : ∀ b i, ¬ (b = O ∧ (i = 0 ∨ i = 0 + 1)) → X.cell? ⟨b, i, none⟩ = w.cell? ⟨b, i, none⟩) (hg : O ≠ g) : Now3 X g R N :=
 ⟨h.1, fun j x hx => by
  have := h.2.1 j x hx
  rw [hk g _ (fun q => hg q.1.symm), hk g _ (fun q => hg q.1.symm)]; exact this, fun j hj => by
  obtain ⟨a, n, c, h1, h2, h3⟩ := h.2.2 j hj
  exact ⟨a, n, c, h1, h2.keep2 hs hk, h3⟩⟩
theorem Now3.lt {w : World} {g : Nat} {R : List Raw} {N : Nat → List Rec} (h : Now3 w g R N) : g < w.heap.size := by
 obtain ⟨_, _, _, h1, _⟩ := h.at (j := 0) (by decide)
 exact World.block_lt_of_cell? _ _ h1
theorem RawsB.one {w : World} {O j : Nat} {s : Slc} (h0 : w.cell? ⟨O, 0, none⟩ = some (.int .i64 ((j : Nat) : Int))) (h1 : w.cell? ⟨O, 1, none⟩ = some (.slice s.1 s.2.1 s.2.2)) : RawsB w O 0 [(j, s)] := fun i x hx => by
 match i, hx with
 | 0, hx => cases hx; exact ⟨h0, h1⟩
 | _ + 1, hx => simp at hx
theorem Now3.tail {w : World} {g c : Nat} {R : List Raw} {N : Nat → List Rec} (h : Now3 w g R N) {j : Nat} (hj : j < 3) (hc : 3 ≤ c) : 3 - (j + 1) = 0 ∨ ∃ b o, (if c = j + 1 then some (⟨g, 0, none⟩ : Addr) else (some (⟨g, 0, none⟩ : Addr)).map (fun x => x.add ((j + 1) * 2))) = some ⟨b, o, none⟩ ∧ RawsB w b o (R.drop (j + 1)) := by
  rcases Nat.lt_or_ge (j + 1) 3 with q | q
  · rw [if_neg (by omega)]
    exact .inr ⟨g, 0 + (j + 1) * 2, by rw [Option.map_some, Addr.add_mid], h.2.1.drop (j + 1)⟩
  · exact .inl (by omega)
theorem Now3.take {w : World} {g : Nat} {R : List Raw} {N : Nat → List Rec} (h : Now3 w g R N) (j : Nat) : j = 0 ∨ ∃ b o, (some (⟨g, 0, none⟩ : Addr)) = some ⟨b, o, none⟩ ∧ RawsB w b o (R.take j) := .inr ⟨g, 0, rfl, h.2.1.take j⟩
theorem Now3.lenT {w : World} {g : Nat} {R : List Raw} {N : Nat → List Rec} (h : Now3 w g R N) {j : Nat} (hj : j < 3) : (R.take j).length = j := by have := h.1; rw [List.length_take]; omega
theorem Now3.lenD {w : World} {g : Nat} {R : List Raw} {N : Nat → List Rec} (h : Now3 w g R N) {j : Nat} : (R.drop (j + 1)).length = 3 - (j + 1) := by have := h.1; rw [List.length_drop]; omega
theorem Now3.cap {w : World} {g c : Nat} {n₀ : Nat} {l : List Raw} (h : OwnL rawR n₀ 25 2 (.slice (some ⟨g, 0, none⟩) 3 c) w l) (hl : l.length = 3) : 3 ≤ c := by
  obtain ⟨cs, h1, h2, h3, h4⟩ := h
  rcases h3.2 with ⟨q, _⟩ | ⟨g', cap', cur, q, _, _, q3, _⟩
  · cases q
  · injection q with q1 q2 q4
    omega
theorem app_rawsQ {n₀ k c0 g0 m c q : Nat} {w : World} {l xs l' : List Raw} {sa : Option Addr} (h : OwnL rawR n₀ 25 2 (.slice (some ⟨g0, 0, none⟩) k c0) w l) (hn : n₀ ≤ w.heap.size) (hl : l.length = k) (hk : k ≤ c0) (hxs : xs.length = m) (hs : m = 0 ∨ ∃ b o, sa = some ⟨b, o, none⟩ ∧ RawsB w b o xs) (hL : l ++ xs = l') (hq : k + m = q) (hb : q ≤ 1000) :
  ∃ g cap w', (Builtin.append_ #[28, 28] 28 #[.slice (some ⟨g0, 0, none⟩) k c0, .slice sa m c]).run Tryz.prog w = .ok (.slice (some ⟨g, 0, none⟩) q cap) w' ∧ OwnL rawR n₀ 25 2 (.slice (some ⟨g, 0, none⟩) q cap) w' l' ∧ Grew n₀ w w' ∧ w.grownBy w' (Value.slice (some ⟨g0, 0, none⟩) k c0).ownBlock ∧ q ≤ cap ∧ l'.length = q := by
 subst hL hq
 obtain ⟨g, cap, w', h1, h2, h3, h4, h5⟩ := app_raws (c := c) h hn hl hk hxs hs hb
 exact ⟨g, cap, w', h1, h2, h3, h4, h5, by rw [List.length_append, hl, hxs]⟩
namespace Rep
def Rnd (U : List Rec) (L N : Nat → List Rec) (k : Nat) : Prop := (1 ≤ k → Has (N 1) (L 0) ∧ Has (N 1) (L 1)) ∧ (2 ≤ k → Has (N 1) U ∧ Has (N 2) U) ∧ (3 ≤ k → ∀ j, j < 3 → Has (N j) U)
theorem Rnd.zero (U : List Rec) (L N : Nat → List Rec) : Rnd U L N 0 := ⟨fun h => absurd h (by decide), fun h => absurd h (by decide), fun h => absurd h (by decide)⟩
theorem upd2_has {U : List Rec} (hU : keysD U) {N : Nat → List Rec} (hi : ∀ j, j < 3 → In U (N j)) {a b : Nat} (ha : a < 3) (hb : b < 3) (hne : a ≠ b) : (∀ j, j < 3 → Has (updL (updL N a (unionF (N a) (N b))) b (unionF (updL N a (unionF (N a) (N b)) b) (updL N a (unionF (N a) (N b)) a)) j) (N j)) ∧ Has (updL (updL N a (unionF (N a) (N b))) b (unionF (updL N a (unionF (N a) (N b)) b) (updL N a (unionF (N a) (N b)) a)) a) (N b) ∧ Has (updL (updL N a (unionF (N a) (N b))) b (unionF (updL N a (unionF (N a) (N b)) b) (updL N a (unionF (N a) (N b)) a)) b) (N a) := by
  have i1 := (hi a ha).union hU (hi b hb)
  have eb : updL N a (unionF (N a) (N b)) b = N b := updL_ne hne.symm
  have ea : updL N a (unionF (N a) (N b)) a = unionF (N a) (N b) := updL_same
  rw [eb, ea]
  refine ⟨fun j hj x hx => ?_, fun x hx => ?_, fun x hx => ?_⟩
  · by_cases e : j = b
    · subst e; rw [updL_same, (hi j hb).mem hU i1]; exact .inl hx
    · rw [updL_ne e]
      by_cases e2 : j = a
      · subst e2; rw [updL_same, (hi j ha).mem hU (hi b hb)]; exact .inl hx
      · rw [updL_ne e2]; exact hx
  · rw [updL_ne hne, updL_same, (hi a ha).mem hU (hi b hb)]; exact .inr hx
  · rw [updL_same, (hi b hb).mem hU i1, (hi a ha).mem hU (hi b hb)]; exact .inr (.inl hx)
theorem Has.trans {a b c : List Rec} (h : Has a b) (k : Has b c) : Has a c := fun x hx => h x (k x hx)
theorem All3.parts {U : List Rec} {L : Nat → List Rec} {A l : List Rec} (h : All3 U L A) (h0 : Has l (L 0)) (h1 : Has l (L 1)) (h2 : Has l (L 2)) : Has l U := fun x hx => by
 have i0 := h.inn 0 (by decide); have i1 := h.inn 1 (by decide); have i2 := h.inn 2 (by decide)
 have hA := h.all x hx
 rw [(merge_is h.ml).2, (i0.union h.kd i1).mem h.kd i2, i0.mem h.kd i1] at hA
 rcases hA with (q | q) | q
 · exact h0 x q
 · exact h1 x q
 · exact h2 x q
theorem All3.step {U : List Rec} {L N : Nat → List Rec} {A : List Rec} (h : All3 U L A) (hn : Now U L N) {k a b : Nat} (ha : a = k % 3) (hb : b = (k + 1) % 3) (hr : Rnd U L N k) : Rnd U L (updL (updL N a (unionF (N a) (N b))) b (unionF (updL N a (unionF (N a) (N b)) b) (updL N a (unionF (N a) (N b)) a))) (k + 1) := by
  obtain ⟨g1, g2, g3⟩ := upd2_has h.kd hn.inn (a := a) (b := b) (by omega) (by omega) (by omega)
  obtain ⟨r1, r2, r3⟩ := hr
  have hk : k = 0 ∨ k = 1 ∨ k = 2 ∨ 3 ≤ k := by omega
  refine ⟨fun _ => ?_, fun h2 => ?_, fun h3 => ?_⟩
  · rcases hk with q | q | q | q
    · subst q; subst ha hb
      exact ⟨g3.trans (hn.has 0 (by decide)), (g1 1 (by decide)).trans (hn.has 1 (by decide))⟩
    all_goals have := r1 (by omega); exact ⟨(g1 1 (by decide)).trans this.1, (g1 1 (by decide)).trans this.2⟩
  · rcases hk with q | q | q | q
    · omega
    · subst q; subst ha hb
      have := r1 (by decide)
      have e1 := g1 1 (by decide)
      exact ⟨h.parts (e1.trans this.1) (e1.trans this.2) (g2.trans (hn.has 2 (by decide))), h.parts (g3.trans this.1) (g3.trans this.2) ((g1 2 (by decide)).trans (hn.has 2 (by decide)))⟩
    all_goals have := r2 (by omega); exact ⟨(g1 1 (by decide)).trans this.1, (g1 2 (by decide)).trans this.2⟩
  · rcases hk with q | q | q | q
    · omega
    · omega
    · subst q; subst ha hb
      have := r2 (by decide)
      intro j hj
      match j, hj with
      | 0, _ => exact g3.trans this.2
      | 1, _ => exact (g1 1 (by decide)).trans this.1
      | 2, _ => exact (g1 2 (by decide)).trans this.2
      | j + 3, hj => omega
    · intro j hj; exact (g1 j hj).trans (r3 q j hj)
end Rep
end Go.Proofs.YtfmoabgjaclkpaaGreatDoor

namespace Go.Proofs.YtfmoabgjaclkpaaGreatDoor
set_option maxRecDepth 1000000
set_option maxHeartbeats 4000000
set_option synthInstance.maxHeartbeats 0
set_option synthInstance.maxSize 9999
open Go.RowKit
def Tz78_0 : List Row := [(some 38, [6], []), (some 39, [38], [0]), (some 40, [39], [1]), (some 41, [6], []), (some 42, [41], [3]), (some 43, [42], [4]), (some 44, [40, 43], [2, 5]), (some 37, [44], [6]), (some 45, [37], [7]), (some 46, [37], [7]), (some 7, [], []), (none, [7, 45], [10, 8, 6, 0, 1, 2, 3, 4, 5, 6, 7, 8, 10]), (some 8, [46], [9, 11, 0, 1, 2, 3, 4, 5, 6, 7, 8, 9, 10, 11])]
def Tz78_1 : List Row := [(some 48, [6], []), (some 49, [48], [0]), (some 50, [49], [1]), (some 51, [6], []), (some 52, [51], [3]), (some 53, [52], [4]), (some 54, [50, 53], [2, 5]), (some 47, [54], [6]), (some 55, [47], [7]), (some 56, [47], [7]), (some 9, [], []), (none, [9, 55], [10, 8, 6, 0, 1, 2, 3, 4, 5, 6, 7, 8, 10]), (some 10, [56], [9, 11, 0, 1, 2, 3, 4, 5, 6, 7, 8, 9, 10, 11])]
def Tz78_2 : List Row := [(some 58, [6], []), (some 59, [58], [0]), (some 60, [59], [1]), (some 61, [6], []), (some 62, [61], [3]), (some 63, [62], [4]), (some 64, [60, 63], [2, 5]), (some 57, [64], [6]), (some 65, [57], [7]), (some 66, [57], [7]), (some 11, [], []), (none, [11, 65], [10, 8, 6, 0, 1, 2, 3, 4, 5, 6, 7, 8, 10]), (some 12, [66], [9, 11, 0, 1, 2, 3, 4, 5, 6, 7, 8, 9, 10, 11])]
def Tz78_3 : List Row := [(some 68, [7], []), (some 69, [6], []), (some 70, [69], [1]), (some 71, [70], [2]), (some 72, [68, 71], [0, 3]), (some 67, [72], [4]), (some 73, [67], [5]), (some 74, [67], [5]), (some 13, [], []), (none, [13, 73], [8, 6, 4, 0, 1, 2, 3, 4, 5, 6, 8]), (some 14, [74], [7, 9, 0, 1, 2, 3, 4, 5, 6, 7, 8, 9])]
def Tz78_4 : List Row := [(some 76, [6], []), (some 77, [76], [0]), (some 78, [77], [1]), (some 79, [11], []), (some 80, [78, 79], [2, 3]), (some 75, [80], [4]), (some 81, [75], [5]), (some 82, [75], [5]), (some 15, [], []), (none, [15, 81], [8, 6, 4, 0, 1, 2, 3, 4, 5, 6, 8]), (some 16, [82], [7, 9, 0, 1, 2, 3, 4, 5, 6, 7, 8, 9])]
def Tz78_5 : List Row := [(some 167, [19], []), (some 168, [21], []), (some 169, [167, 168], [0, 1]), (some 170, [169], [2]), (some 171, [19], []), (some 172, [22], []), (some 173, [171, 172], [4, 5]), (some 174, [173], [6]), (some 175, [170, 174], [3, 7]), (some 166, [175], [8]), (some 176, [166], [9]), (some 177, [166], [9]), (some 23, [], []), (none, [23, 176], [12, 10, 8, 0, 1, 2, 3, 4, 5, 6, 7, 8, 9, 10, 12]), (some 24, [177], [11, 13, 0, 1, 2, 3, 4, 5, 6, 7, 8, 9, 10, 11, 12, 13])]
def Tz78_6 : List Row := [(some 186, [], []), (some 187, [19], []), (some 188, [21], []), (some 189, [187, 188], [1, 2]), (some 190, [186, 189], [0, 3]), (some 191, [23], []), (some 192, [191], [5]), (some 193, [190, 192], [4, 6, 4]), (some 194, [19], []), (some 195, [21], []), (some 196, [195], [9]), (some 197, [194, 196], [8, 10]), (some 198, [193, 197], [7, 11, 7]), (some 19, [198], [12, 12, 0, 1, 2, 3, 4, 5, 6, 7, 8, 9, 10, 11, 12])]
def Tz78_7 : List Row := [(some 208, [19], []), (some 209, [22], []), (some 210, [208, 209], [0, 1]), (some 211, [210], [2]), (some 212, [19], []), (some 213, [21], []), (some 214, [212, 213], [4, 5]), (some 215, [214], [6]), (some 216, [211, 215], [3, 7]), (some 207, [216], [8]), (some 217, [207], [9]), (some 218, [207], [9]), (none, [23, 217], [10, 8, 0, 1, 2, 3, 4, 5, 6, 7, 8, 9, 10]), (some 24, [218], [11, 12, 0, 1, 2, 3, 4, 5, 6, 7, 8, 9, 10, 11, 12])]
def Tz78_8 : List Row := [(some 221, [], []), (some 222, [19], []), (some 223, [22], []), (some 224, [222, 223], [1, 2]), (some 225, [221, 224], [0, 3]), (some 226, [23], []), (some 227, [226], [5]), (some 228, [225, 227], [4, 6, 4]), (some 229, [19], []), (some 230, [22], []), (some 231, [230], [9]), (some 232, [229, 231], [8, 10]), (some 233, [228, 232], [7, 11, 7]), (some 19, [233], [12, 12, 0, 1, 2, 3, 4, 5, 6, 7, 8, 9, 10, 11, 12])]
def Tz78_9 : List Row := [(some 246, [19], []), (some 247, [27], []), (some 248, [246, 247], [0, 1]), (some 249, [248], [2]), (some 250, [13], []), (some 251, [249, 250], [3, 4]), (some 245, [251], [5]), (some 252, [245], [6]), (some 253, [245], [6]), (some 28, [], []), (none, [28, 252], [9, 7, 5, 0, 1, 2, 3, 4, 5, 6, 7, 9]), (some 29, [253], [8, 10, 0, 1, 2, 3, 4, 5, 6, 7, 8, 9, 10])]
def Tz78_10 : List Row := [(some 279, [1], []), (some 280, [279], [0]), (some 281, [280], [1]), (some 282, [281], [2]), (some 283, [19, 282], [3]), (some 284, [27, 282], [3]), (some 285, [283, 284, 282], [4, 5, 3]), (some 286, [285, 282], [6, 3]), (some 287, [286, 282], [7, 3]), (some 288, [13, 282], [3]), (some 289, [288, 282], [9, 3]), (some 290, [287, 289, 282], [8, 10, 3, 3]), (some 291, [290, 282], [11, 3]), (some 292, [282, 291], [3, 12])]
theorem ReplicaOrder_walk (w : World) (v0 : Value) (o0 : Quads w v0) (v1 : Value) (o1 : Ints1 w v1) (hRl : RootAt w) : Calls Tryz.prog 4 #[v0, v1] w fun e w' => e = .returned (.bool true) ∧ Ext w w' := by
 obtain ⟨ax, nx, cx, q, rfl, hq1, hq2, _, hQ⟩ := o0;obtain ⟨ai, ni, ci, qi, rfl, hi1, hi2, hI⟩ := o1;obtain ⟨bi, oi, hai, hbi, hIB⟩ := hI.parts;obtain ⟨z6, hz6, Zt⟩ : ∃ z, IntKind.i64.wrap (((ni : Nat) : Int) + 6) = z ∧ (ni = 0 → z = 6) := ⟨_, rfl, fun e => by subst e; rfl⟩;refine calls_cw 294 [(1, .slice ai ni ci), (0, .slice ax nx cx)] Tryz.func4 rfl Tryz.ntmps4 (by kernel_rfl) (by kernel_rfl) (fun L => ?_);have hE := Ext.refl w;refine zc (zp (pT (.bool false) ?_));refine zn (zc (zp (pS (sc 10 #[] ((sane_c _ (hRl.ext (Ext.refl _))).mono ?_)))));rintro e w1 ⟨rfl, hb⟩;replace hE := hE.trans hb;have E4 := hb.size;refine ⟨_, rfl, pT (.bool true) ?_⟩;refine zn (zc (zc (zp (pD (.bool true) (.bool false) ?_))));refine zn (zf ?_);refine cw_skip (zq (zc (zp (pT (.slice ax nx cx) ?_))));refine pS (sc 11 #[.slice ax nx cx] ((Made_c cx _ hQ hE (by omega)).mono ?_));rintro e w3 ⟨B, LL, rfl, hB, hT, hTri, hb⟩;replace hE := hE.trans hb;have E5 := hb.size;have Bw := Ext.refl w3;refine ⟨_, rfl, pT (sv B 0 3 3) ?_⟩;refine zn (cw_seq ?_);obtain ⟨a0, n0, c0, Cj, Ck, H0, hc0, B6v⟩ := hT 0 (by omega);replace Cj : BoxAt w3 B 0 (iv 0) := Cj;replace Ck : BoxAt w3 B 1 (.slice a0 n0 c0) := Ck;obtain ⟨a1, n1, c1, Cl, Cm, H1, hc1, B6w⟩ := hT 1 (by omega);replace Cl : BoxAt w3 B 2 (iv 1) := Cl;replace Cm : BoxAt w3 B 3 (.slice a1 n1 c1) := Cm;obtain ⟨a2, n2, c2, Du, Dv, H2, hc2, B6x⟩ := hT 2 (by omega);replace Du : BoxAt w3 B 4 (iv 2) := Du;replace Dv : BoxAt w3 B 5 (.slice a2 n2 c2) := Dv;obtain ⟨U9, A9, hA⟩ := hTri.all;refine cw_join (fun ws' Y => ∃ a9 : Option Addr, ∃ Hz J6 Ey : Nat, ws' = [(1, .slice ai ni ci), (5, .bool true), (6, sv B 0 3 3), (7, pw Ey 0), (8, iv 0)] ∧ Ext w Y ∧ Ext w3 Y ∧ RecsAt Y a9 Hz ((Rep.unionF (LL 0) (LL 1))) ∧ Hz ≤ J6 ∧ BoxAt Y Ey 0 (iv 0) ∧ BoxAt Y Ey 1 (.slice a9 Hz J6) ∧ w3.heap.size ≤ Y.heap.size ∧ w3.heap.size ≤ Ey) (fun hJ => ?_) ?_
 ·
  refine dE Tz78_0 (fun w' => w'.cell? ⟨B, 0, none⟩ = some (iv 0) ∧ w'.cell? ⟨B, 1, none⟩ = some (.slice a0 n0 c0) ∧ w'.cell? ⟨B, 2, none⟩ = some (iv 1) ∧ w'.cell? ⟨B, 3, none⟩ = some (.slice a1 n1 c1)) (⟨Cj.1, Ck.1, Cl.1, Cm.1⟩) (fun ops Q X6 hb hL hR hK => ?_);refine mv2 hb hE Bw fun hE Bw=>?_;have Sq := hb.size;have U2 := A4 (Cj.c Bw) (Ck.c Bw) (Cl.c Bw) (Cm.c Bw);refine wV 0 (sv B 0 3 3) hR U2 ?_;refine wL 1 (pw B 0) hR (fun w _ => ex_index (p := sv B 0 3 3) (i := iv ((0 : Nat) : Int)) rfl (by kernel_rfl) (by kernel_rfl) (ix28z (k := 0) (by omega))) U2 ?_;refine wM 2 (.agg #[iv 0, .slice a0 n0 c0]) hR (fun w hS => ld25 (hS.1) (hS.2.1)) U2 ?_;refine wV 3 (sv B 0 3 3) hR U2 ?_;refine wL 4 (pw B 2) hR (fun w _ => ex_index (p := sv B 0 3 3) (i := iv ((1 : Nat) : Int)) rfl (by kernel_rfl) (by kernel_rfl) (ix28z (k := 1) (by omega))) U2 ?_;refine wM 5 (.agg #[iv 1, .slice a1 n1 c1]) hR (fun w hS => ld25 (hS.2.2.1) (hS.2.2.2)) U2 ?_;refine zw 6 10 hR ?_ ?_
  ·
   refine sc 26 #[.agg #[iv 0, .slice a0 n0 c0], .agg #[iv 1, .slice a1 n1 c1]] ((Merge_y _ _ _ ((H0.ext Bw)) (Ext.refl _) ((H1.ext Bw)) (Ext.refl _) (hRl.ext hE) hA.mab).mono ?_);rintro e w15 ⟨a9, Hz, J6, rfl, Kj, Q9, B5i, hb⟩;refine mv2 hb hE Bw fun hE Bw=>?_;have Sn := hb.size;have Dr := Ext.refl w15;have Mz := A4 (Cj.c (Bw.trans Dr)) (Ck.c (Bw.trans Dr)) (Cl.c (Bw.trans Dr)) (Cm.c (Bw.trans Dr));refine ⟨_, rfl, Mz, ?_⟩;refine wW 7 (.tuple #[.agg #[iv 0, .slice a9 Hz J6], iv 0]) 8 (.agg #[iv 0, .slice a9 Hz J6]) hR Mz ?_;refine wV 9 (iv 0) hR Mz ?_;refine wN 10 25 #[iv 0, .slice none 0 0] hR ?_;intro Ey X20 M0 B5l hb hbx;have ⟨Bx, C4⟩ := bq2 hbx;refine mv2 hb hE Dr fun hE Dr=>?_;have B35 := hb.size;have B77 := Bx.lt;have B1e := A4 (Cj.c (Bw.trans Dr)) (Ck.c (Bw.trans Dr)) (Cl.c (Bw.trans Dr)) (Cm.c (Bw.trans Dr));refine ⟨B1e, ?_⟩;refine wS 11 hR (sn_set2 (O := Ey) (j := 0) (v := iv 0) (v' := .slice a9 Hz J6) (ex_store (p := pw Ey 0) (v := .agg #[iv 0, .slice a9 Hz J6]) rfl (by kernel_rfl) (by kernel_rfl) (st25 Bx.1 Bx.2 C4.1 C4.2)) Bx C4 ?_);intro X24 ho Bx C4 hk;replace hE := ho.ext hE (by omega);replace Dr := ho.ext Dr (Nat.le_of_eq M0);have B36 := Nat.le_of_eq ho.size.symm;clear ho hk;have V5 := A4 (Cj.c (Bw.trans Dr)) (Ck.c (Bw.trans Dr)) (Cl.c (Bw.trans Dr)) (Cm.c (Bw.trans Dr));refine ⟨V5, ?_⟩;refine wV 12 (iv 0) hR V5 ?_;refine we hL hR hK ?_;exact zl hJ [1, 5, 6, 7, 8] ⟨a9, Hz, J6, Ey, rfl, hE, (Bw.trans Dr), (Kj.ext Dr), Q9, Bx, C4, (T Sq (T Sn (T B35 B36))), (T (T Sq Sn) (Nat.le_of_eq M0))⟩
  ·
   refine sw 25 #[iv 0, .slice none 0 0] ?_;intro O27 X28 M1 B5m hb hbx;have ⟨Dg, Dy⟩ := bq2 hbx;refine mv2 hb hE Bw fun hE Bw=>?_;have B37 := hb.size;have B42 := Dg.lt;have B1f := A4 (Cj.c Bw) (Ck.c Bw) (Cl.c Bw) (Cm.c Bw);refine ⟨B1f, ?_⟩;refine wC 6 26 #[.agg #[iv 0, .slice a0 n0 c0], .agg #[iv 1, .slice a1 n1 c1]] hR ((Merge_y _ _ _ ((H0.ext Bw)) (Ext.refl _) ((H1.ext Bw)) (Ext.refl _) (hRl.ext hE) hA.mab).mono ?_);rintro e w38 ⟨Ui, n33, Zu, rfl, B1c, Y6, Yq, hb⟩;refine mv4 hb hE Bw Dg Dy fun hE Bw Dg Dy=>?_;have B38 := hb.size;have Kq := Ext.refl w38;have N0 := A4 (Cj.c (Bw.trans Kq)) (Ck.c (Bw.trans Kq)) (Cl.c (Bw.trans Kq)) (Cm.c (Bw.trans Kq));refine ⟨_, rfl, N0, ?_⟩;refine wW 7 (.tuple #[.agg #[iv 0, .slice Ui n33 Zu], iv 0]) 8 (.agg #[iv 0, .slice Ui n33 Zu]) hR N0 ?_;refine wV 9 (iv 0) hR N0 ?_;have Km := B1c;have I5 := (Bw.trans Kq);refine wS 11 hR (sn_set2 (O := O27) (j := 0) (v := iv 0) (v' := .slice Ui n33 Zu) (ex_store (p := pw O27 0) (v := .agg #[iv 0, .slice Ui n33 Zu]) rfl (by kernel_rfl) (by kernel_rfl) (st25 Dg.1 Dg.2 Dy.1 Dy.2)) Dg Dy ?_);intro X42 ho Dg Dy hk;replace hE := ho.ext hE (T (T E4 (T E5 Sq)) (Nat.le_of_eq M1));replace I5 := ho.ext I5 (T Sq (Nat.le_of_eq M1));replace Km := Km.turn ho (fun ad e => Nat.ne_of_gt (Nat.lt_of_lt_of_le (by omega) (Yq ad e)));have B39 := Nat.le_of_eq ho.size.symm;clear ho hk;have Vf := A4 (Cj.c I5) (Ck.c I5) (Cl.c I5) (Cm.c I5);refine ⟨Vf, ?_⟩;refine wV 12 (iv 0) hR Vf ?_;refine we hL hR hK ?_;exact zl hJ [1, 5, 6, 7, 8] ⟨Ui, n33, Zu, O27, rfl, hE, I5, Km, Y6, Dg, Dy, (T Sq (T B37 (T B38 B39))), (T Sq (Nat.le_of_eq M1))⟩
 ·
  clear hE Bw;rintro L ws Uf ⟨a9, Hz, J6, Ey, rfl, hE, Bw, Kj, Q9, Bx, C4, C5, B72⟩;have Bn := Ext.refl Uf;have B78 := Bx.lt;refine zq (zc (cw_join (fun ws' Y => ∃ Kg : Option Addr, ∃ K8 Md Gj : Nat, ws' = [(1, .slice ai ni ci), (5, .bool true), (6, sv B 0 3 3), (7, pw Ey 0), (8, iv 0), (9, pw Gj 0), (10, iv 0)] ∧ Ext w Y ∧ Ext Uf Y ∧ RecsAt Y Kg K8 ((Rep.unionF (LL 0) (LL 1))) ∧ K8 ≤ Md ∧ BoxAt Y Gj 0 (iv 1) ∧ BoxAt Y Gj 1 (.slice Kg K8 Md) ∧ Uf.heap.size ≤ Y.heap.size ∧ Uf.heap.size ≤ Gj) (fun hJ => ?_) ?_))
  ·
   refine dE Tz78_1 (fun w' => w'.cell? ⟨B, 2, none⟩ = some (iv 1) ∧ w'.cell? ⟨B, 3, none⟩ = some (.slice a1 n1 c1) ∧ w'.cell? ⟨B, 0, none⟩ = some (iv 0) ∧ w'.cell? ⟨B, 1, none⟩ = some (.slice a0 n0 c0)) (⟨(Cl.x (Bw.trans Bn)).1, (Cm.x (Bw.trans Bn)).1, (Cj.x (Bw.trans Bn)).1, (Ck.x (Bw.trans Bn)).1⟩) (fun ops Q X52 hb hL hR hK => ?_);refine mv2 hb hE Bn fun hE Bn=>?_;have Iu := hb.size;have K1 := A4 (Cl.c (Bw.trans Bn)) (Cm.c (Bw.trans Bn)) (Cj.c (Bw.trans Bn)) (Ck.c (Bw.trans Bn));refine wV 0 (sv B 0 3 3) hR K1 ?_;refine wL 1 (pw B 2) hR (fun w _ => ex_index (p := sv B 0 3 3) (i := iv ((1 : Nat) : Int)) rfl (by kernel_rfl) (by kernel_rfl) (ix28z (k := 1) (by omega))) K1 ?_;refine wM 2 (.agg #[iv 1, .slice a1 n1 c1]) hR (fun w hS => ld25 (hS.1) (hS.2.1)) K1 ?_;refine wV 3 (sv B 0 3 3) hR K1 ?_;refine wL 4 (pw B 0) hR (fun w _ => ex_index (p := sv B 0 3 3) (i := iv ((0 : Nat) : Int)) rfl (by kernel_rfl) (by kernel_rfl) (ix28z (k := 0) (by omega))) K1 ?_;refine wM 5 (.agg #[iv 0, .slice a0 n0 c0]) hR (fun w hS => ld25 (hS.2.2.1) (hS.2.2.2)) K1 ?_;refine zw 6 10 hR ?_ ?_
   ·
    refine sc 26 #[.agg #[iv 1, .slice a1 n1 c1], .agg #[iv 0, .slice a0 n0 c0]] ((Merge_y _ _ _ ((H1.ext (Bw.trans Bn))) (Ext.refl _) ((H0.ext (Bw.trans Bn))) (Ext.refl _) (hRl.ext hE) hA.mba).mono ?_);rintro e w61 ⟨Kg, K8, Md, rfl, Rx, Qa, B5j, hb⟩;refine mv2 hb hE Bn fun hE Bn=>?_;have So := hb.size;have Dt := Ext.refl w61;have F0 := Bw.trans Bn;have N2 := A4 (Cl.c (F0.trans Dt)) (Cm.c (F0.trans Dt)) (Cj.c (F0.trans Dt)) (Ck.c (F0.trans Dt));refine ⟨_, rfl, N2, ?_⟩;refine wW 7 (.tuple #[.agg #[iv 1, .slice Kg K8 Md], iv 0]) 8 (.agg #[iv 1, .slice Kg K8 Md]) hR N2 ?_;refine wV 9 (iv 0) hR N2 ?_;refine wN 10 25 #[iv 0, .slice none 0 0] hR ?_;intro Gj X67 M7 B5n hb hbx;have ⟨Db, Dz⟩ := bq2 hbx;refine mv2 hb hE Dt fun hE Dt=>?_;have B3a := hb.size;have B79 := Db.lt;have B1g := A4 (Cl.c (F0.trans Dt)) (Cm.c (F0.trans Dt)) (Cj.c (F0.trans Dt)) (Ck.c (F0.trans Dt));refine ⟨B1g, ?_⟩;refine wS 11 hR (sn_set2 (O := Gj) (j := 0) (v := iv 1) (v' := .slice Kg K8 Md) (ex_store (p := pw Gj 0) (v := .agg #[iv 1, .slice Kg K8 Md]) rfl (by kernel_rfl) (by kernel_rfl) (st25 Db.1 Db.2 Dz.1 Dz.2)) Db Dz ?_);intro X71 ho Db Dz hk;replace hE := ho.ext hE (by omega);replace Dt := ho.ext Dt (Nat.le_of_eq M7);have B3b := Nat.le_of_eq ho.size.symm;clear ho hk;have Vv := A4 (Cl.c (F0.trans Dt)) (Cm.c (F0.trans Dt)) (Cj.c (F0.trans Dt)) (Ck.c (F0.trans Dt));refine ⟨Vv, ?_⟩;refine wV 12 (iv 0) hR Vv ?_;refine we hL hR hK ?_;exact zl hJ [1, 5, 6, 7, 8, 9, 10] ⟨Kg, K8, Md, Gj, rfl, hE, (Bn.trans Dt), (Rx.ext Dt), Qa, Db, Dz, (T Iu (T So (T B3a B3b))), (T (T Iu So) (Nat.le_of_eq M7))⟩
   ·
    refine sw 25 #[iv 0, .slice none 0 0] ?_;intro O74 X75 M8 B5o hb hbx;have ⟨Dj, E0⟩ := bq2 hbx;refine mv2 hb hE Bn fun hE Bn=>?_;have B3c := hb.size;have B43 := Dj.lt;have B1h := A4 (Cl.c (Bw.trans Bn)) (Cm.c (Bw.trans Bn)) (Cj.c (Bw.trans Bn)) (Ck.c (Bw.trans Bn));refine ⟨B1h, ?_⟩;refine wC 6 26 #[.agg #[iv 1, .slice a1 n1 c1], .agg #[iv 0, .slice a0 n0 c0]] hR ((Merge_y _ _ _ ((H1.ext (Bw.trans Bn))) (Ext.refl _) ((H0.ext (Bw.trans Bn))) (Ext.refl _) (hRl.ext hE) hA.mba).mono ?_);rintro e w85 ⟨Uj, n80, Zv, rfl, B1d, Y7, Yr, hb⟩;refine mv4 hb hE Bn Dj E0 fun hE Bn Dj E0=>?_;have B3d := hb.size;have Ks := Ext.refl w85;have N4 := Bw.trans Bn;have N3 := A4 (Cl.c (N4.trans Ks)) (Cm.c (N4.trans Ks)) (Cj.c (N4.trans Ks)) (Ck.c (N4.trans Ks));refine ⟨_, rfl, N3, ?_⟩;refine wW 7 (.tuple #[.agg #[iv 1, .slice Uj n80 Zv], iv 0]) 8 (.agg #[iv 1, .slice Uj n80 Zv]) hR N3 ?_;refine wV 9 (iv 0) hR N3 ?_;have Kn := B1d;have I6 := (Bn.trans Ks);refine wS 11 hR (sn_set2 (O := O74) (j := 0) (v := iv 1) (v' := .slice Uj n80 Zv) (ex_store (p := pw O74 0) (v := .agg #[iv 1, .slice Uj n80 Zv]) rfl (by kernel_rfl) (by kernel_rfl) (st25 Dj.1 Dj.2 E0.1 E0.2)) Dj E0 ?_);intro X90 ho Dj E0 hk;replace hE := ho.ext hE (by omega);replace I6 := ho.ext I6 (T Iu (Nat.le_of_eq M8));replace Kn := Kn.turn ho (fun ad e => Nat.ne_of_gt (Nat.lt_of_lt_of_le (by omega) (Yr ad e)));have B3e := Nat.le_of_eq ho.size.symm;clear ho hk;have Vz := A4 (Cl.c (Bw.trans I6)) (Cm.c (Bw.trans I6)) (Cj.c (Bw.trans I6)) (Ck.c (Bw.trans I6));refine ⟨Vz, ?_⟩;refine wV 12 (iv 0) hR Vz ?_;refine we hL hR hK ?_;exact zl hJ [1, 5, 6, 7, 8, 9, 10] ⟨Uj, n80, Zv, O74, rfl, hE, I6, Kn, Y7, Dj, E0, (T Iu (T B3c (T B3d B3e))), (T Iu (Nat.le_of_eq M8))⟩
  ·
   clear hE Bn;rintro L ws Uh ⟨Kg, K8, Md, Gj, rfl, hE, Bn, Rx, Qa, Db, Dz, C7, B73⟩;have Bq := Ext.refl Uh;have B7a := Db.lt;refine zq (cw_seq ?_);have C6 := Bw.trans Bn;refine cw_join (fun ws' Y => ∃ Ee : Option Addr, ∃ E8 Eg Dp : Nat, ws' = [(1, .slice ai ni ci), (5, .bool true), (6, sv B 0 3 3), (7, pw Ey 0), (8, iv 0), (9, pw Gj 0), (10, iv 0), (11, pw Dp 0), (12, iv 0)] ∧ Ext w Y ∧ Ext Uh Y ∧ RecsAt Y Ee E8 ((Rep.unionF (LL 1) (LL 2))) ∧ E8 ≤ Eg ∧ BoxAt Y Dp 0 (iv 1) ∧ BoxAt Y Dp 1 (.slice Ee E8 Eg) ∧ Uh.heap.size ≤ Y.heap.size ∧ Uh.heap.size ≤ Dp) (fun hJ => ?_) ?_
   ·
    refine dE Tz78_2 (fun w' => w'.cell? ⟨B, 2, none⟩ = some (iv 1) ∧ w'.cell? ⟨B, 3, none⟩ = some (.slice a1 n1 c1) ∧ w'.cell? ⟨B, 4, none⟩ = some (iv 2) ∧ w'.cell? ⟨B, 5, none⟩ = some (.slice a2 n2 c2)) (⟨(Cl.x (C6.trans Bq)).1, (Cm.x (C6.trans Bq)).1, (Du.x (C6.trans Bq)).1, (Dv.x (C6.trans Bq)).1⟩) (fun ops Q B66 hb hL hR hK => ?_);refine mv2 hb hE Bq fun hE Bq=>?_;have Fp := hb.size;have Gl := A4 (Cl.c (C6.trans Bq)) (Cm.c (C6.trans Bq)) (Du.c (C6.trans Bq)) (Dv.c (C6.trans Bq));refine wV 0 (sv B 0 3 3) hR Gl ?_;refine wL 1 (pw B 2) hR (fun w _ => ex_index (p := sv B 0 3 3) (i := iv ((1 : Nat) : Int)) rfl (by kernel_rfl) (by kernel_rfl) (ix28z (k := 1) (by omega))) Gl ?_;refine wM 2 (.agg #[iv 1, .slice a1 n1 c1]) hR (fun w hS => ld25 (hS.1) (hS.2.1)) Gl ?_;refine wV 3 (sv B 0 3 3) hR Gl ?_;refine wL 4 (pw B 4) hR (fun w _ => ex_index (p := sv B 0 3 3) (i := iv ((2 : Nat) : Int)) rfl (by kernel_rfl) (by kernel_rfl) (ix28z (k := 2) (by omega))) Gl ?_;refine wM 5 (.agg #[iv 2, .slice a2 n2 c2]) hR (fun w hS => ld25 (hS.2.2.1) (hS.2.2.2)) Gl ?_;refine zw 6 10 hR ?_ ?_
    ·
     refine sc 26 #[.agg #[iv 1, .slice a1 n1 c1], .agg #[iv 2, .slice a2 n2 c2]] ((Merge_y _ _ _ ((H1.ext (C6.trans Bq))) (Ext.refl _) ((H2.ext (C6.trans Bq))) (Ext.refl _) (hRl.ext hE) hA.mbc).mono ?_);rintro e B03 ⟨Ee, E8, Eg, rfl, Hb, Lj, B2y, hb⟩;refine mv2 hb hE Bq fun hE Bq=>?_;have Ln := hb.size;have C8 := Ext.refl B03;have W0 := Bn.trans Bq;have Dl := Bw.trans W0;have J9 := A4 (Cl.c (Dl.trans C8)) (Cm.c (Dl.trans C8)) (Du.c (Dl.trans C8)) (Dv.c (Dl.trans C8));refine ⟨_, rfl, J9, ?_⟩;refine wW 7 (.tuple #[.agg #[iv 1, .slice Ee E8 Eg], iv 0]) 8 (.agg #[iv 1, .slice Ee E8 Eg]) hR J9 ?_;refine wV 9 (iv 0) hR J9 ?_;refine wN 10 25 #[iv 0, .slice none 0 0] hR ?_;intro Dp B0s Iv B3f hb hbx;have ⟨Bh, Bm⟩ := bq2 hbx;refine mv2 hb hE C8 fun hE C8=>?_;have Yt := hb.size;have B5p := Bh.lt;have Uz := A4 (Cl.c (Dl.trans C8)) (Cm.c (Dl.trans C8)) (Du.c (Dl.trans C8)) (Dv.c (Dl.trans C8));refine ⟨Uz, ?_⟩;refine wS 11 hR (sn_set2 (O := Dp) (j := 0) (v := iv 1) (v' := .slice Ee E8 Eg) (ex_store (p := pw Dp 0) (v := .agg #[iv 1, .slice Ee E8 Eg]) rfl (by kernel_rfl) (by kernel_rfl) (st25 Bh.1 Bh.2 Bm.1 Bm.2)) Bh Bm ?_);intro B0t ho Bh Bm hk;replace hE := ho.ext hE (by omega);replace C8 := ho.ext C8 (Nat.le_of_eq Iv);have Yu := Nat.le_of_eq ho.size.symm;clear ho hk;have Pb := A4 (Cl.c (Dl.trans C8)) (Cm.c (Dl.trans C8)) (Du.c (Dl.trans C8)) (Dv.c (Dl.trans C8));refine ⟨Pb, ?_⟩;refine wV 12 (iv 0) hR Pb ?_;refine we hL hR hK ?_;exact zl hJ [1, 5, 6, 7, 8, 9, 10, 11, 12] ⟨Ee, E8, Eg, Dp, rfl, hE, (Bq.trans C8), (Hb.ext C8), Lj, Bh, Bm, (T Fp (T Ln (T Yt Yu))), (T (T Fp Ln) (Nat.le_of_eq Iv))⟩
    ·
     refine sw 25 #[iv 0, .slice none 0 0] ?_;intro Mr B67 Iw B3g hb hbx;have ⟨Cr, D1⟩ := bq2 hbx;refine mv2 hb hE Bq fun hE Bq=>?_;have Yv := hb.size;have Zw := Cr.lt;have V0 := A4 (Cl.c (C6.trans Bq)) (Cm.c (C6.trans Bq)) (Du.c (C6.trans Bq)) (Dv.c (C6.trans Bq));refine ⟨V0, ?_⟩;refine wC 6 26 #[.agg #[iv 1, .slice a1 n1 c1], .agg #[iv 2, .slice a2 n2 c2]] hR ((Merge_y _ _ _ ((H1.ext (C6.trans Bq))) (Ext.refl _) ((H2.ext (C6.trans Bq))) (Ext.refl _) (hRl.ext hE) hA.mbc).mono ?_);rintro e Sw ⟨Kc, Mg, M9, rfl, Uq, S3, Sb, hb⟩;refine mv4 hb hE Bq Cr D1 fun hE Bq Cr D1=>?_;have Yw := hb.size;have He := Ext.refl Sw;have W6 := Bn.trans Bq;have Jm := Bw.trans W6;have Ja := A4 (Cl.c (Jm.trans He)) (Cm.c (Jm.trans He)) (Du.c (Jm.trans He)) (Dv.c (Jm.trans He));refine ⟨_, rfl, Ja, ?_⟩;refine wW 7 (.tuple #[.agg #[iv 1, .slice Kc Mg M9], iv 0]) 8 (.agg #[iv 1, .slice Kc Mg M9]) hR Ja ?_;refine wV 9 (iv 0) hR Ja ?_;have I0 := Uq;have Fd := (Bq.trans He);refine wS 11 hR (sn_set2 (O := Mr) (j := 0) (v := iv 1) (v' := .slice Kc Mg M9) (ex_store (p := pw Mr 0) (v := .agg #[iv 1, .slice Kc Mg M9]) rfl (by kernel_rfl) (by kernel_rfl) (st25 Cr.1 Cr.2 D1.1 D1.2)) Cr D1 ?_);intro B0u ho Cr D1 hk;replace hE := ho.ext hE (by omega);replace Fd := ho.ext Fd (T Fp (Nat.le_of_eq Iw));replace I0 := I0.turn ho (fun ad e => Nat.ne_of_gt (Nat.lt_of_lt_of_le (Nat.lt_of_lt_of_le Zw (Nat.le_refl _)) (Sb ad e)));have Yx := Nat.le_of_eq ho.size.symm;clear ho hk;have Pd := A4 (Cl.c (C6.trans Fd)) (Cm.c (C6.trans Fd)) (Du.c (C6.trans Fd)) (Dv.c (C6.trans Fd));refine ⟨Pd, ?_⟩;refine wV 12 (iv 0) hR Pd ?_;refine we hL hR hK ?_;exact zl hJ [1, 5, 6, 7, 8, 9, 10, 11, 12] ⟨Kc, Mg, M9, Mr, rfl, hE, Fd, I0, S3, Cr, D1, (T Fp (T Yv (T Yw Yx))), (T Fp (Nat.le_of_eq Iw))⟩
   ·
    clear hE Bq;rintro L ws Ka ⟨Ee, E8, Eg, Dp, rfl, hE, Bq, Hb, Lj, Bh, Bm, Bk, B5e⟩;have B4 := Ext.refl Ka;have B5q := Bh.lt;refine zq (cw_seq ?_);have E2 := Bn.trans Bq;have Eb := Bw.trans E2;refine cw_join (fun ws' Y => ∃ Ci : Option Addr, ∃ Cf Cn Bg : Nat, ws' = [(1, .slice ai ni ci), (5, .bool true), (6, sv B 0 3 3), (7, pw Ey 0), (8, iv 0), (9, pw Gj 0), (10, iv 0), (11, pw Dp 0), (12, iv 0), (13, pw Bg 0), (14, iv 0)] ∧ Ext w Y ∧ Ext Ka Y ∧ RecsAt Y Ci Cf A9 ∧ Cf ≤ Cn ∧ BoxAt Y Bg 0 (iv 0) ∧ BoxAt Y Bg 1 (.slice Ci Cf Cn) ∧ Ka.heap.size ≤ Y.heap.size ∧ Ka.heap.size ≤ Bg) (fun hJ => ?_) ?_
    ·
     refine dE Tz78_3 (fun w' => w'.cell? ⟨Ey, 0, none⟩ = some (iv 0) ∧ w'.cell? ⟨Ey, 1, none⟩ = some (.slice a9 Hz J6) ∧ w'.cell? ⟨B, 4, none⟩ = some (iv 2) ∧ w'.cell? ⟨B, 5, none⟩ = some (.slice a2 n2 c2)) (⟨(Bx.x (E2.trans B4)).1, (C4.x (E2.trans B4)).1, (Du.x (Eb.trans B4)).1, (Dv.x (Eb.trans B4)).1⟩) (fun ops Q B68 hb hL hR hK => ?_);refine mv2 hb hE B4 fun hE B4=>?_;have Fq := hb.size;have Jb := A4 (Bx.c (E2.trans B4)) (C4.c (E2.trans B4)) (Du.c (Eb.trans B4)) (Dv.c (Eb.trans B4));refine wM 0 (.agg #[iv 0, .slice a9 Hz J6]) hR (fun w hS => ld25 (hS.1) (hS.2.1)) Jb ?_;refine wV 1 (sv B 0 3 3) hR Jb ?_;refine wL 2 (pw B 4) hR (fun w _ => ex_index (p := sv B 0 3 3) (i := iv ((2 : Nat) : Int)) rfl (by kernel_rfl) (by kernel_rfl) (ix28z (k := 2) (by omega))) Jb ?_;refine wM 3 (.agg #[iv 2, .slice a2 n2 c2]) hR (fun w hS => ld25 (hS.2.2.1) (hS.2.2.2)) Jb ?_;refine zw 4 8 hR ?_ ?_
     ·
      refine sc 26 #[.agg #[iv 0, .slice a9 Hz J6], .agg #[iv 2, .slice a2 n2 c2]] ((Merge_y _ _ _ ((Kj.ext (E2.trans B4))) (Ext.refl _) ((H2.ext (Eb.trans B4))) (Ext.refl _) (hRl.ext hE) hA.ml).mono ?_);rintro e B04 ⟨Ci, Cf, Cn, rfl, E9, Lk, B2z, hb⟩;refine mv2 hb hE B4 fun hE B4=>?_;have Lo := hb.size;have C9 := Ext.refl B04;have W7 := Bq.trans B4;have Fk := Bn.trans W7;have Gm := Bw.trans Fk;have Jc := A4 (Bx.c (Fk.trans C9)) (C4.c (Fk.trans C9)) (Du.c (Gm.trans C9)) (Dv.c (Gm.trans C9));refine ⟨_, rfl, Jc, ?_⟩;refine wW 5 (.tuple #[.agg #[iv 0, .slice Ci Cf Cn], iv 0]) 6 (.agg #[iv 0, .slice Ci Cf Cn]) hR Jc ?_;refine wV 7 (iv 0) hR Jc ?_;refine wN 8 25 #[iv 0, .slice none 0 0] hR ?_;intro Bg B0v Iy B3h hb hbx;have ⟨Bf, Be⟩ := bq2 hbx;refine mv2 hb hE C9 fun hE C9=>?_;have Yy := hb.size;have B5r := Bf.lt;have V1 := A4 (Bx.c (Fk.trans C9)) (C4.c (Fk.trans C9)) (Du.c (Gm.trans C9)) (Dv.c (Gm.trans C9));refine ⟨V1, ?_⟩;refine wS 9 hR (sn_set2 (O := Bg) (j := 0) (v := iv 0) (v' := .slice Ci Cf Cn) (ex_store (p := pw Bg 0) (v := .agg #[iv 0, .slice Ci Cf Cn]) rfl (by kernel_rfl) (by kernel_rfl) (st25 Bf.1 Bf.2 Be.1 Be.2)) Bf Be ?_);intro B0w ho Bf Be hk;replace hE := ho.ext hE (by omega);replace C9 := ho.ext C9 (Nat.le_of_eq Iy);have Yz := Nat.le_of_eq ho.size.symm;clear ho hk;have Pe := A4 (Bx.c (Fk.trans C9)) (C4.c (Fk.trans C9)) (Du.c (Gm.trans C9)) (Dv.c (Gm.trans C9));refine ⟨Pe, ?_⟩;refine wV 10 (iv 0) hR Pe ?_;refine we hL hR hK ?_;exact zl hJ [1, 5, 6, 7, 8, 9, 10, 11, 12, 13, 14] ⟨Ci, Cf, Cn, Bg, rfl, hE, (B4.trans C9), (E9.ext C9), Lk, Bf, Be, (T Fq (T Lo (T Yy Yz))), (T (T Fq Lo) (Nat.le_of_eq Iy))⟩
     ·
      refine sw 25 #[iv 0, .slice none 0 0] ?_;intro Ms B69 Iz B3i hb hbx;have ⟨Cs, D2⟩ := bq2 hbx;refine mv2 hb hE B4 fun hE B4=>?_;have Z0 := hb.size;have Zx := Cs.lt;have V2 := A4 (Bx.c (E2.trans B4)) (C4.c (E2.trans B4)) (Du.c (Eb.trans B4)) (Dv.c (Eb.trans B4));refine ⟨V2, ?_⟩;refine wC 4 26 #[.agg #[iv 0, .slice a9 Hz J6], .agg #[iv 2, .slice a2 n2 c2]] hR ((Merge_y _ _ _ ((Kj.ext (E2.trans B4))) (Ext.refl _) ((H2.ext (Eb.trans B4))) (Ext.refl _) (hRl.ext hE) hA.ml).mono ?_);rintro e Sx ⟨Kd, Mh, Ma, rfl, Ur, S4, Sc, hb⟩;refine mv4 hb hE B4 Cs D2 fun hE B4 Cs D2=>?_;have Z1 := hb.size;have Hf := Ext.refl Sx;have W8 := Bq.trans B4;have Kt := Bn.trans W8;have Px := Bw.trans Kt;have Jd := A4 (Bx.c (Kt.trans Hf)) (C4.c (Kt.trans Hf)) (Du.c (Px.trans Hf)) (Dv.c (Px.trans Hf));refine ⟨_, rfl, Jd, ?_⟩;refine wW 5 (.tuple #[.agg #[iv 0, .slice Kd Mh Ma], iv 0]) 6 (.agg #[iv 0, .slice Kd Mh Ma]) hR Jd ?_;refine wV 7 (iv 0) hR Jd ?_;have I1 := Ur;have Fe := (B4.trans Hf);refine wS 9 hR (sn_set2 (O := Ms) (j := 0) (v := iv 0) (v' := .slice Kd Mh Ma) (ex_store (p := pw Ms 0) (v := .agg #[iv 0, .slice Kd Mh Ma]) rfl (by kernel_rfl) (by kernel_rfl) (st25 Cs.1 Cs.2 D2.1 D2.2)) Cs D2 ?_);intro B0x ho Cs D2 hk;replace hE := ho.ext hE (by omega);replace Fe := ho.ext Fe (T Fq (Nat.le_of_eq Iz));replace I1 := I1.turn ho (fun ad e => Nat.ne_of_gt (Nat.lt_of_lt_of_le (Nat.lt_of_lt_of_le Zx (Nat.le_refl _)) (Sc ad e)));have Z2 := Nat.le_of_eq ho.size.symm;clear ho hk;have Pf := A4 (Bx.c (E2.trans Fe)) (C4.c (E2.trans Fe)) (Du.c (Eb.trans Fe)) (Dv.c (Eb.trans Fe));refine ⟨Pf, ?_⟩;refine wV 10 (iv 0) hR Pf ?_;refine we hL hR hK ?_;exact zl hJ [1, 5, 6, 7, 8, 9, 10, 11, 12, 13, 14] ⟨Kd, Mh, Ma, Ms, rfl, hE, Fe, I1, S4, Cs, D2, (T Fq (T Z0 (T Z1 Z2))), (T Fq (Nat.le_of_eq Iz))⟩
    ·
     clear hE B4;rintro L ws Kb ⟨Ci, Cf, Cn, Bg, rfl, hE, B4, E9, Lk, Bf, Be, Bp, B5f⟩;have Ba := Ext.refl Kb;have B5s := Bf.lt;refine zq (cw_seq ?_);have Wa := Bq.trans B4;have Wb := Bn.trans Wa;have Ec := Bw.trans Wb;refine cw_join (fun ws' Y => ∃ Fc : Option Addr, ∃ F2 Fz Gi : Nat, ws' = [(1, .slice ai ni ci), (5, .bool true), (6, sv B 0 3 3), (7, pw Ey 0), (8, iv 0), (9, pw Gj 0), (10, iv 0), (11, pw Dp 0), (12, iv 0), (13, pw Bg 0), (14, iv 0), (15, pw Gi 0), (16, iv 0)] ∧ Ext w Y ∧ Ext Kb Y ∧ RecsAt Y Fc F2 A9 ∧ F2 ≤ Fz ∧ BoxAt Y Gi 0 (iv 0) ∧ BoxAt Y Gi 1 (.slice Fc F2 Fz) ∧ Kb.heap.size ≤ Y.heap.size ∧ Kb.heap.size ≤ Gi) (fun hJ => ?_) ?_
     ·
      refine dE Tz78_4 (fun w' => w'.cell? ⟨B, 0, none⟩ = some (iv 0) ∧ w'.cell? ⟨B, 1, none⟩ = some (.slice a0 n0 c0) ∧ w'.cell? ⟨Dp, 0, none⟩ = some (iv 1) ∧ w'.cell? ⟨Dp, 1, none⟩ = some (.slice Ee E8 Eg)) (⟨(Cj.x (Ec.trans Ba)).1, (Ck.x (Ec.trans Ba)).1, (Bh.x (B4.trans Ba)).1, (Bm.x (B4.trans Ba)).1⟩) (fun ops Q B6b hb hL hR hK => ?_);refine mv2 hb hE Ba fun hE Ba=>?_;have Fr := hb.size;have Je := A4 (Cj.c (Ec.trans Ba)) (Ck.c (Ec.trans Ba)) (Bh.c (B4.trans Ba)) (Bm.c (B4.trans Ba));refine wV 0 (sv B 0 3 3) hR Je ?_;refine wL 1 (pw B 0) hR (fun w _ => ex_index (p := sv B 0 3 3) (i := iv ((0 : Nat) : Int)) rfl (by kernel_rfl) (by kernel_rfl) (ix28z (k := 0) (by omega))) Je ?_;refine wM 2 (.agg #[iv 0, .slice a0 n0 c0]) hR (fun w hS => ld25 (hS.1) (hS.2.1)) Je ?_;refine wM 3 (.agg #[iv 1, .slice Ee E8 Eg]) hR (fun w hS => ld25 (hS.2.2.1) (hS.2.2.2)) Je ?_;refine zw 4 8 hR ?_ ?_
      ·
       refine sc 26 #[.agg #[iv 0, .slice a0 n0 c0], .agg #[iv 1, .slice Ee E8 Eg]] ((Merge_y _ _ _ ((H0.ext (Ec.trans Ba))) (Ext.refl _) ((Hb.ext (B4.trans Ba))) (Ext.refl _) (hRl.ext hE) hA.mr).mono ?_);rintro e B05 ⟨Fc, F2, Fz, rfl, Kk, Ll, B30, hb⟩;refine mv2 hb hE Ba fun hE Ba=>?_;have Lp := hb.size;have Ca := Ext.refl B05;have Fl := B4.trans Ba;have Wc := Bq.trans Fl;have Wd := Bn.trans Wc;have Gn := Bw.trans Wd;have Jf := A4 (Cj.c (Gn.trans Ca)) (Ck.c (Gn.trans Ca)) (Bh.c (Fl.trans Ca)) (Bm.c (Fl.trans Ca));refine ⟨_, rfl, Jf, ?_⟩;refine wW 5 (.tuple #[.agg #[iv 0, .slice Fc F2 Fz], iv 0]) 6 (.agg #[iv 0, .slice Fc F2 Fz]) hR Jf ?_;refine wV 7 (iv 0) hR Jf ?_;refine wN 8 25 #[iv 0, .slice none 0 0] hR ?_;intro Gi B0y J0 B3j hb hbx;have ⟨Cg, D3⟩ := bq2 hbx;refine mv2 hb hE Ca fun hE Ca=>?_;have Z3 := hb.size;have B5t := Cg.lt;have V3 := A4 (Cj.c (Gn.trans Ca)) (Ck.c (Gn.trans Ca)) (Bh.c (Fl.trans Ca)) (Bm.c (Fl.trans Ca));refine ⟨V3, ?_⟩;refine wS 9 hR (sn_set2 (O := Gi) (j := 0) (v := iv 0) (v' := .slice Fc F2 Fz) (ex_store (p := pw Gi 0) (v := .agg #[iv 0, .slice Fc F2 Fz]) rfl (by kernel_rfl) (by kernel_rfl) (st25 Cg.1 Cg.2 D3.1 D3.2)) Cg D3 ?_);intro B0z ho Cg D3 hk;replace hE := ho.ext hE (by omega);replace Ca := ho.ext Ca (Nat.le_of_eq J0);have Z4 := Nat.le_of_eq ho.size.symm;clear ho hk;have Ph := A4 (Cj.c (Gn.trans Ca)) (Ck.c (Gn.trans Ca)) (Bh.c (Fl.trans Ca)) (Bm.c (Fl.trans Ca));refine ⟨Ph, ?_⟩;refine wV 10 (iv 0) hR Ph ?_;refine we hL hR hK ?_;exact zl hJ [1, 5, 6, 7, 8, 9, 10, 11, 12, 13, 14, 15, 16] ⟨Fc, F2, Fz, Gi, rfl, hE, (Ba.trans Ca), (Kk.ext Ca), Ll, Cg, D3, (T Fr (T Lp (T Z3 Z4))), (T (T Fr Lp) (Nat.le_of_eq J0))⟩
      ·
       refine sw 25 #[iv 0, .slice none 0 0] ?_;intro Mt B6c J1 B3k hb hbx;have ⟨Ct, D4⟩ := bq2 hbx;refine mv2 hb hE Ba fun hE Ba=>?_;have Z5 := hb.size;have Zy := Ct.lt;have V4 := A4 (Cj.c (Ec.trans Ba)) (Ck.c (Ec.trans Ba)) (Bh.c (B4.trans Ba)) (Bm.c (B4.trans Ba));refine ⟨V4, ?_⟩;refine wC 4 26 #[.agg #[iv 0, .slice a0 n0 c0], .agg #[iv 1, .slice Ee E8 Eg]] hR ((Merge_y _ _ _ ((H0.ext (Ec.trans Ba))) (Ext.refl _) ((Hb.ext (B4.trans Ba))) (Ext.refl _) (hRl.ext hE) hA.mr).mono ?_);rintro e Sy ⟨Ke, Mi, Mb, rfl, Us, S5, Se, hb⟩;refine mv4 hb hE Ba Ct D4 fun hE Ba Ct D4=>?_;have Z6 := hb.size;have Hg := Ext.refl Sy;have Ku := B4.trans Ba;have We := Bq.trans Ku;have Wf := Bn.trans We;have Py := Bw.trans Wf;have Jg := A4 (Cj.c (Py.trans Hg)) (Ck.c (Py.trans Hg)) (Bh.c (Ku.trans Hg)) (Bm.c (Ku.trans Hg));refine ⟨_, rfl, Jg, ?_⟩;refine wW 5 (.tuple #[.agg #[iv 0, .slice Ke Mi Mb], iv 0]) 6 (.agg #[iv 0, .slice Ke Mi Mb]) hR Jg ?_;refine wV 7 (iv 0) hR Jg ?_;have I2 := Us;have Ff := (Ba.trans Hg);refine wS 9 hR (sn_set2 (O := Mt) (j := 0) (v := iv 0) (v' := .slice Ke Mi Mb) (ex_store (p := pw Mt 0) (v := .agg #[iv 0, .slice Ke Mi Mb]) rfl (by kernel_rfl) (by kernel_rfl) (st25 Ct.1 Ct.2 D4.1 D4.2)) Ct D4 ?_);intro B10 ho Ct D4 hk;replace hE := ho.ext hE (by omega);replace Ff := ho.ext Ff (T Fr (Nat.le_of_eq J1));replace I2 := I2.turn ho (fun ad e => Nat.ne_of_gt (Nat.lt_of_lt_of_le (Nat.lt_of_lt_of_le Zy (Nat.le_refl _)) (Se ad e)));have Z7 := Nat.le_of_eq ho.size.symm;clear ho hk;have Pi := A4 (Cj.c (Ec.trans Ff)) (Ck.c (Ec.trans Ff)) (Bh.c (B4.trans Ff)) (Bm.c (B4.trans Ff));refine ⟨Pi, ?_⟩;refine wV 10 (iv 0) hR Pi ?_;refine we hL hR hK ?_;exact zl hJ [1, 5, 6, 7, 8, 9, 10, 11, 12, 13, 14, 15, 16] ⟨Ke, Mi, Mb, Mt, rfl, hE, Ff, I2, S5, Ct, D4, (T Fr (T Z5 (T Z6 Z7))), (T Fr (Nat.le_of_eq J1))⟩
     ·
      clear hE Ba;rintro L ws Ue ⟨Fc, F2, Fz, Gi, rfl, hE, Ba, Kk, Ll, Cg, D3, Bs, B5g⟩;have Cp := Ext.refl Ue;have B5u := Cg.lt;refine zq (zc (zp (pU (.agg #[iv 0, .slice Ci Cf Cn]) (xl (ld25 (Bf.c (Ba.trans Cp)) (Be.c (Ba.trans Cp)))) ?_)));have Kv := B4.trans Ba;refine pU (.agg #[iv 1, .slice Ee E8 Eg]) (xl (ld25 (Bh.c (Kv.trans Cp)) (Bm.c (Kv.trans Cp)))) ?_;refine pS (sc 26 #[.agg #[iv 0, .slice Ci Cf Cn], .agg #[iv 1, .slice Ee E8 Eg]] ((Merge_y _ _ _ ((E9.ext (Ba.trans Cp))) (Ext.refl _) ((Hb.ext (Kv.trans Cp))) (Ext.refl _) (hRl.ext hE) hA.mag).mono ?_));rintro e B06 ⟨K0, K6, K5, rfl, Ut, B2s, B31, hb⟩;refine mv2 hb hE Cp fun hE Cp=>?_;have Bt := hb.size;have Dc := Ext.refl B06;refine ⟨_, rfl, pD (.tuple #[.agg #[iv 0, .slice K0 K6 K5], iv 0]) (.agg #[iv 0, .slice K0 K6 K5]) ?_⟩;refine pT (iv 0) ?_;refine pS (sw 25 #[iv 0, .slice none 0 0] ?_);intro U3 B11 M2 B3l hb hbx;have ⟨Df, E3⟩ := bq2 hbx;refine mv2 hb hE Dc fun hE Dc=>?_;have By := hb.size;have B5v := Df.lt;refine pP (sn_set2 (O := U3) (j := 0) (v := iv 0) (v' := .slice K0 K6 K5) (xt (pw U3 0) (.agg #[iv 0, .slice K0 K6 K5]) (st25 Df.1 Df.2 E3.1 E3.2)) Df E3 ?_);intro R3 ho Df E3 hk;replace hE := ho.ext hE (by omega);replace Dc := ho.ext Dc (Nat.le_of_eq M2);have Bz := Nat.le_of_eq ho.size.symm;clear ho hk;refine pT (iv 0) ?_;refine zn (cK [1,5,6,7,8,9,10,12,13,14,15,16,17,18] (fun L => ?_));refine cw_seq ?_;refine cw_seq ?_;have Bj := Ext.refl R3;refine zp (pD (iv 0) (.bool false) ?_);refine pD (.bool false) (iv 0) ?_;refine pD (.bool false) (.bool false) ?_;refine pD (.bool false) (iv 0) ?_;refine pD (.bool false) (.bool false) ?_;refine pD (.bool false) (iv 0) ?_;refine pD (.bool false) (.bool false) ?_;refine pD (.bool false) (iv 0) ?_;refine pD (.bool false) (.bool false) ?_;refine pD (.bool false) (iv 0) ?_;refine pD (.bool false) (.bool false) ?_;refine zn (cK [1,5,6,7,9,13,15,17,110] (fun L => ?_));refine zf ?_;refine cw_skip (zq (zc (zc (zp (pT (pw Ey 1) ?_)))));have Jn := Cp.trans Dc;have Fm := Ba.trans Jn;have Wg := B4.trans Fm;have Jo := Bq.trans Wg;have Pz := Bn.trans Jo;refine pU (.slice a9 Hz J6) (xl (ld23 (C4.c (Pz.trans Bj)))) ?_;refine pT (pw Gj 1) ?_;refine pU (.slice Kg K8 Md) (xl (ld23 (Dz.c (Jo.trans Bj)))) ?_;refine pS (sc 15 #[.slice a9 Hz J6, .slice Kg K8 Md] ((SameRecords_r _ _ _ ((Kj.ext (Pz.trans Bj))) (Ext.refl _) ((Rx.ext (Jo.trans Bj))) (Ext.refl _) (decide_eq_true rfl)).mono ?_));rintro e B7d ⟨rfl, hb⟩;refine mv2 hb hE Bj fun hE Bj=>?_;have C0 := hb.size;refine ⟨_, rfl, pD (.bool false) (.bool false) ?_⟩;refine pT (pw Gj 0) ?_;refine pU (iv 1) (xl (ld3 (Db.c (Jo.trans Bj)))) ?_;refine pD (.bool false) (.bool false) ?_;refine pT (.bool false) ?_;refine pU (.agg #[iv 0, .slice Ci Cf Cn]) (xl (ld25 (Bf.c (Fm.trans Bj)) (Be.c (Fm.trans Bj)))) ?_;refine pU (.agg #[iv 0, .slice Fc F2 Fz]) (xl (ld25 (Cg.c (Jn.trans Bj)) (D3.c (Jn.trans Bj)))) ?_;refine pS (sc 20 #[.agg #[iv 0, .slice Ci Cf Cn], .agg #[iv 0, .slice Fc F2 Fz]] ((rSame_r _ _ _ ((E9.ext (Fm.trans Bj))) (Ext.refl _) ((Kk.ext (Jn.trans Bj))) (Ext.refl _) (decide_eq_true ⟨rfl, rfl⟩)).mono ?_));rintro e B7e ⟨rfl, hb⟩;refine mv2 hb hE Bj fun hE Bj=>?_;have C1 := hb.size;refine ⟨_, rfl, pD (.bool false) (.bool false) ?_⟩;refine pT (.bool false) ?_;refine pU (.agg #[iv 0, .slice K0 K6 K5]) (xl (ld25 (Df.c Bj) (E3.c Bj))) ?_;refine pU (.agg #[iv 0, .slice Ci Cf Cn]) (xl (ld25 (Bf.c (Fm.trans Bj)) (Be.c (Fm.trans Bj)))) ?_;refine pS (sc 20 #[.agg #[iv 0, .slice K0 K6 K5], .agg #[iv 0, .slice Ci Cf Cn]] ((rSame_r _ _ _ ((Ut.ext (Dc.trans Bj))) (Ext.refl _) ((E9.ext (Fm.trans Bj))) (Ext.refl _) (decide_eq_true ⟨rfl, rfl⟩)).mono ?_));rintro e K7 ⟨rfl, hb⟩;refine mv2 hb hE Bj fun hE Bj=>?_;have C2 := hb.size;refine ⟨_, rfl, pD (.bool false) (.bool false) ?_⟩;refine zn (cK [1,5,6,13,133] (fun L => ?_));refine zf ?_;refine cw_skip (zq (zc (zp (pD (sv B 0 3 3) (sv B 0 3 3) ?_))));refine zn (zc (zc (zp (pT (iv 0) ?_))));refine pl_nil ?_;refine qw_then ?_;have Cb := Ext.refl K7;obtain ⟨R0, hN0⟩ := Now3.of hT;refine cw_join (fun ws' wr => ∃ g8 c8 : Nat, ∃ R8 : List Raw, ∃ N8 : Nat → List Rec, ws' = [(1, .slice ai ni ci), (5, .bool true), (13, pw Bg 0), (19, sv g8 0 3 c8)] ∧ K7.heap.size ≤ wr.heap.size ∧ Ext w wr ∧ Ext K7 wr ∧ Now3 wr g8 R8 N8 ∧ 3 ≤ c8 ∧ Rep.Now U9 LL N8 ∧ (ni = 0 → ∀ j, j < 3 → Rep.Has (N8 j) U9)) (fun hJ => ?_) ?_
      ·
       refine cw_block ?_;have Wh := Dc.trans Bj;have Wi := Cp.trans Wh;have Wj := Ba.trans Wi;have Wk := B4.trans Wj;have Wl := Bq.trans Wk;have Wm := Bn.trans Wl;have Wn := Bw.trans Wm;refine cw_loop [1, 5, 13, 19, 20] (fun ws' wr m => ∃ k g9 c9 : Nat, ∃ R9 : List Raw, ∃ N9 : Nat → List Rec, ws' = [(1, .slice ai ni ci), (5, .bool true), (13, pw Bg 0), (19, sv g9 0 3 c9), (20, iv k)] ∧ m = 14 - k ∧ K7.heap.size ≤ wr.heap.size ∧ Ext w wr ∧ Ext K7 wr ∧ Now3 wr g9 R9 N9 ∧ k ≤ 14 ∧ 3 ≤ c9 ∧ Rep.Now U9 LL N9 ∧ (ni = 0 → Rep.Rnd U9 LL N9 k)) (ws0 := [(1, .slice ai ni ci), (5, .bool true), (13, pw Bg 0), (19, sv B 0 3 3), (20, iv 0)]) (by kernel_rfl) _ ⟨0, B, 3, R0, LL, rfl, rfl, Nat.le_refl _, hE, Cb, (hN0.ext (Wn.trans Cb)), Nat.zero_le _, (Nat.le_refl 3), hA.start, (fun _ => Rep.Rnd.zero _ _ _)⟩ ?_;clear hE Cb;rintro B7b L ws P9 ⟨k, g9, c9, R9, N9, rfl, rfl, Bo, hE, Cb, Gk, hk, hcc, hno, hrd⟩;have Cc := Ext.refl P9;have B70 := (Gk).lt;refine zc (zc (zp (pD (iv k) (.slice ai ni ci) ?_)));refine pT (iv ni) ?_;refine pU (iv z6) (ev_int (show _ = Result.ok (Next.value (Value.int .i64 (IntKind.i64.wrap (((ni : Nat) : Int) + 6)))) _ from by kernel_rfl) hz6) ?_
       by_cases Q5 : ((k : Nat) : Int) < (z6 : Int)
       ·
        refine pU (.bool true) (ed (((k : Nat) : Int) < (z6 : Int)) (Q5)) ?_;refine pD (.bool true) (iv k) ?_
        by_cases Q6 : ((k : Nat) : Int) < (14 : Int)
        ·
         refine pU (.bool true) (ed (((k : Nat) : Int) < (14 : Int)) (Q6)) ?_;refine pT (.bool true) ?_;refine zn (zt ?_);refine cw_skip (zq (zc (cw_block ?_)));refine zc (zp (pT (iv k) ?_));refine pU (iv ((k % 3 : Nat) : Int)) (ex_bin (a := ((k : Nat) : Int)) (b := ((3 : Nat) : Int)) rfl (by kernel_rfl) (by kernel_rfl) (bin_rem (by omega))) ?_;refine pT (iv ((k % 3 : Nat) : Int)) ?_;refine zn (cK [1,5,13,19,20,21] (fun L => ?_));refine zc (zp (pT (iv k) ?_));refine pU (iv ((k + 1 : Nat) : Int)) (ew (by omega) (by omega)) ?_;refine pU (iv ((((k + 1) % 3 : Nat) : Int) : Int)) (ex_bin (a := ((k + 1 : Nat) : Int)) (b := ((3 : Nat) : Int)) rfl (by kernel_rfl) (by kernel_rfl) (bin_rem (by omega))) ?_;refine pT (iv ((((k + 1) % 3 : Nat) : Int) : Int)) ?_;refine zn (zc (cw_seq ?_));obtain ⟨q21, Sm⟩ : ∃ q, decide (((k : Nat) : Int) < ((ni : Nat) : Int)) = q := ⟨_, rfl⟩;refine zp (pD (iv k) (.slice ai ni ci) ?_);refine pT (iv ni) ?_;refine pU (.bool q21) (ev_bool (show _ = Result.ok (Next.value (Value.bool (decide (((k : Nat) : Int) < ((ni : Nat) : Int))))) _ from by kernel_rfl) Sm) ?_;refine zn (cw_join (fun ws' wr => ∃ ja jb : Nat, ws' = [(1, .slice ai ni ci), (5, .bool true), (13, pw Bg 0), (19, sv g9 0 3 c9), (20, iv k), (21, iv ja), (22, iv jb)] ∧ P9.heap.size ≤ wr.heap.size ∧ Ext w wr ∧ Ext P9 wr ∧ ja < 3 ∧ jb < 3 ∧ (ni = 0 → ja = k % 3 ∧ jb = (k + 1) % 3)) (fun hJ => ?_) ?_)
         ·
          cases q21
          ·
           have hkn := of_decide_eq_false Sm;refine zf ?_;refine cw_skip ?_;exact zl hJ [1, 5, 13, 19, 20, 21, 22] ⟨(k % 3), ((k + 1) % 3), rfl, (Nat.le_refl _), hE, (Ext.refl _), by omega, by omega, (fun e => by omega)⟩
          ·
           have hkn := of_decide_eq_true Sm;obtain rfl := hai (by omega);have hbil := hbi (by omega);have hqi := (hIB.at_ k (by omega)).2;have hqu := hqi;unfold IsI at hqu;have hp1 := Rep.pk_lt (c := qi k) (n := 3) (by decide);have hp2 := Rep.pk_lt (c := (qi k).tdiv 3) (n := 3) (by decide);refine zt ?_;refine zc (zp (pD (sv bi oi ni ci) (iv k) ?_));refine pU (pw bi (oi + k)) (xi (sv bi oi ni ci) (iv k) (ix54 (k := k) (by omega))) ?_;refine pU (iv (qi k : Int)) (xl (ld3 (((hIB.ext hE).at_ k (by omega)).1))) ?_;refine pS (sc 21 #[iv (qi k : Int), iv 3] ((lpick_c (c := qi k) (n := 3) _ hqi (by omega)).mono ?_));rintro e B7f ⟨rfl, hb⟩;refine mv2 hb hE Cc fun hE Cc=>?_;have Z8 := hb.size;refine ⟨_, rfl, pT (iv (((Rep.pk (qi k) 3 : Nat) : Int) : Int)) ?_⟩;refine zn (cK [1,5,13,19,20,21] (fun L => ?_));refine zp (pD (sv bi oi ni ci) (iv k) ?_);refine pU (pw bi (oi + k)) (xi (sv bi oi ni ci) (iv k) (ix54 (k := k) (by omega))) ?_;refine pU (iv (qi k : Int)) (xl (ld3 (((hIB.ext hE).at_ k (by omega)).1))) ?_;refine pU (iv ((qi k : Int).tdiv 3 : Int)) (ex_bin (a := (qi k)) (b := 3) rfl (by kernel_rfl) (by kernel_rfl) (bin_tdiv (by omega) (by omega) (by omega))) ?_;refine pS (sc 21 #[iv ((qi k : Int).tdiv 3 : Int), iv 3] ((lpick_c (c := (qi k : Int).tdiv 3) (n := 3) _ (isI_tdiv3 hqi) (by omega)).mono ?_));rintro e B7g ⟨rfl, hb⟩;refine mv2 hb hE Cc fun hE Cc=>?_;have Z9 := hb.size;refine ⟨_, rfl, pT (iv (((Rep.pk ((qi k : Int).tdiv 3) 3 : Nat) : Int) : Int)) ?_⟩;refine pl_nil ?_;exact zl hJ [1, 5, 13, 19, 20, 21, 22] ⟨(Rep.pk (qi k) 3), (Rep.pk ((qi k : Int).tdiv 3) 3), rfl, (T Z8 Z9), hE, Cc, by omega, by omega, (fun e => by omega)⟩
         ·
          clear hE Cc;rintro L ws Mp ⟨ja, jb, rfl, Br, hE, Cc, hja, hjb, hjr⟩;refine qw_then ?_;refine cw_seq ?_;have B3 := Ext.refl Mp;obtain ⟨ap, np, cp, Ho, Hs, Hp, hcp⟩ := ((Gk.ext (Cc.trans B3))).at (j := ja) (by omega);obtain ⟨aq, nq, cq, Ht, Hw, Hq, hcq⟩ := ((Gk.ext (Cc.trans B3))).at (j := jb) (by omega);refine cw_join (fun ws' Y => ∃ Cy : Option Addr, ∃ Cx D0 Co : Nat, ws' = [(1, .slice ai ni ci), (5, .bool true), (13, pw Bg 0), (19, sv g9 0 3 c9), (20, iv k), (21, iv ja), (22, iv jb), (23, pw Co 0), (24, iv 0)] ∧ Ext w Y ∧ Ext Mp Y ∧ RecsAt Y Cy Cx ((Rep.unionF (N9 ja) (N9 jb))) ∧ Cx ≤ D0 ∧ BoxAt Y Co 0 (iv ja) ∧ BoxAt Y Co 1 (.slice Cy Cx D0) ∧ Mp.heap.size ≤ Y.heap.size ∧ Mp.heap.size ≤ Co) (fun hJ => ?_) ?_
          ·
           refine dE Tz78_5 (fun w' => w'.cell? ⟨g9, ja * 2, none⟩ = some (iv ja) ∧ w'.cell? ⟨g9, ja * 2 + 1, none⟩ = some (.slice ap np cp) ∧ w'.cell? ⟨g9, jb * 2, none⟩ = some (iv jb) ∧ w'.cell? ⟨g9, jb * 2 + 1, none⟩ = some (.slice aq nq cq)) (⟨Ho, Hs, Ht, Hw⟩) (fun ops Q B6e hb hL hR hK => ?_);refine mv2 hb hE B3 fun hE B3=>?_;have Fs := hb.size;have Ep := A4 (B3.cell Ho) (B3.cell Hs) (B3.cell Ht) ((B3.cell Hw));refine wW 0 (sv g9 0 3 c9) 1 (iv ja) hR Ep ?_;refine wL 2 (pw g9 (ja * 2)) hR (fun w _ => ex_index (p := sv g9 0 3 c9) (i := iv ja) rfl (by kernel_rfl) (by kernel_rfl) (ix28z (k := ja) (by omega))) Ep ?_;refine wM 3 (.agg #[iv ja, .slice ap np cp]) hR (fun w hS => ld25 (hS.1) (hS.2.1)) Ep ?_;refine wW 4 (sv g9 0 3 c9) 5 (iv jb) hR Ep ?_;refine wL 6 (pw g9 (jb * 2)) hR (fun w _ => ex_index (p := sv g9 0 3 c9) (i := iv jb) rfl (by kernel_rfl) (by kernel_rfl) (ix28z (k := jb) (by omega))) Ep ?_;refine wM 7 (.agg #[iv jb, .slice aq nq cq]) hR (fun w hS => ld25 (hS.2.2.1) (hS.2.2.2)) Ep ?_;refine zw 8 12 hR ?_ ?_
           ·
            refine sc 26 #[.agg #[iv ja, .slice ap np cp], .agg #[iv jb, .slice aq nq cq]] ((Merge_y _ _ _ ((Hp.ext B3)) (Ext.refl _) ((Hq.ext B3)) (Ext.refl _) (hRl.ext hE) (hA.merge hno hja hjb)).mono ?_);rintro e B07 ⟨Cy, Cx, D0, rfl, Hc, Fo, B32, hb⟩;refine mv2 hb hE B3 fun hE B3=>?_;have Lq := hb.size;have Cd := Ext.refl B07;have Jh := A4 ((B3.trans Cd).cell Ho) ((B3.trans Cd).cell Hs) ((B3.trans Cd).cell Ht) (((B3.trans Cd).cell Hw));refine ⟨_, rfl, Jh, ?_⟩;refine wW 9 (.tuple #[.agg #[iv ja, .slice Cy Cx D0], iv 0]) 10 (.agg #[iv ja, .slice Cy Cx D0]) hR Jh ?_;refine wV 11 (iv 0) hR Jh ?_;refine wN 12 25 #[iv 0, .slice none 0 0] hR ?_;intro Co B12 J2 B3m hb hbx;have ⟨B7, Bc⟩ := bq2 hbx;refine mv2 hb hE Cd fun hE Cd=>?_;have Za := hb.size;have B5w := B7.lt;have V6 := A4 ((B3.trans Cd).cell Ho) ((B3.trans Cd).cell Hs) ((B3.trans Cd).cell Ht) (((B3.trans Cd).cell Hw));refine ⟨V6, ?_⟩;refine wS 13 hR (sn_set2 (O := Co) (j := 0) (v := iv ja) (v' := .slice Cy Cx D0) (ex_store (p := pw Co 0) (v := .agg #[iv ja, .slice Cy Cx D0]) rfl (by kernel_rfl) (by kernel_rfl) (st25 B7.1 B7.2 Bc.1 Bc.2)) B7 Bc ?_);intro B13 ho B7 Bc hk;replace hE := ho.ext hE (by omega);replace Cd := ho.ext Cd (Nat.le_of_eq J2);have Zb := Nat.le_of_eq ho.size.symm;clear ho hk;have Pj := A4 ((B3.trans Cd).cell Ho) ((B3.trans Cd).cell Hs) ((B3.trans Cd).cell Ht) (((B3.trans Cd).cell Hw));refine ⟨Pj, ?_⟩;refine wV 14 (iv 0) hR Pj ?_;refine we hL hR hK ?_;exact zl hJ [1, 5, 13, 19, 20, 21, 22, 23, 24] ⟨Cy, Cx, D0, Co, rfl, hE, (B3.trans Cd), (Hc.ext Cd), Fo, B7, Bc, (T Fs (T Lq (T Za Zb))), (T (T Fs Lq) (Nat.le_of_eq J2))⟩
           ·
            refine sw 25 #[iv 0, .slice none 0 0] ?_;intro Mu B6f J3 B3n hb hbx;have ⟨Cu, D5⟩ := bq2 hbx;refine mv2 hb hE B3 fun hE B3=>?_;have Zc := hb.size;have Zz := Cu.lt;have V7 := A4 (B3.cell Ho) (B3.cell Hs) (B3.cell Ht) ((B3.cell Hw));refine ⟨V7, ?_⟩;refine wC 8 26 #[.agg #[iv ja, .slice ap np cp], .agg #[iv jb, .slice aq nq cq]] hR ((Merge_y _ _ _ ((Hp.ext B3)) (Ext.refl _) ((Hq.ext B3)) (Ext.refl _) (hRl.ext hE) (hA.merge hno hja hjb)).mono ?_);rintro e Sz ⟨Kf, Mj, Mc, rfl, Uu, S6, Sf, hb⟩;refine mv4 hb hE B3 Cu D5 fun hE B3 Cu D5=>?_;have Zd := hb.size;have Hh := Ext.refl Sz;have Ji := A4 ((B3.trans Hh).cell Ho) ((B3.trans Hh).cell Hs) ((B3.trans Hh).cell Ht) (((B3.trans Hh).cell Hw));refine ⟨_, rfl, Ji, ?_⟩;refine wW 9 (.tuple #[.agg #[iv ja, .slice Kf Mj Mc], iv 0]) 10 (.agg #[iv ja, .slice Kf Mj Mc]) hR Ji ?_;refine wV 11 (iv 0) hR Ji ?_;have I3 := Uu;have Fg := (B3.trans Hh);refine wS 13 hR (sn_set2 (O := Mu) (j := 0) (v := iv ja) (v' := .slice Kf Mj Mc) (ex_store (p := pw Mu 0) (v := .agg #[iv ja, .slice Kf Mj Mc]) rfl (by kernel_rfl) (by kernel_rfl) (st25 Cu.1 Cu.2 D5.1 D5.2)) Cu D5 ?_);intro B14 ho Cu D5 hk;replace hE := ho.ext hE (by omega);replace Fg := ho.ext Fg (T Fs (Nat.le_of_eq J3));replace I3 := I3.turn ho (fun ad e => Nat.ne_of_gt (Nat.lt_of_lt_of_le (Nat.lt_of_lt_of_le Zz (Nat.le_refl _)) (Sf ad e)));have Ze := Nat.le_of_eq ho.size.symm;clear ho hk;have Pk := A4 (Fg.cell Ho) (Fg.cell Hs) (Fg.cell Ht) ((Fg.cell Hw));refine ⟨Pk, ?_⟩;refine wV 14 (iv 0) hR Pk ?_;refine we hL hR hK ?_;exact zl hJ [1, 5, 13, 19, 20, 21, 22, 23, 24] ⟨Kf, Mj, Mc, Mu, rfl, hE, Fg, I3, S6, Cu, D5, (T Fs (T Zc (T Zd Ze))), (T Fs (Nat.le_of_eq J3))⟩
          ·
           clear hE B3;rintro L ws Gz ⟨Cy, Cx, D0, Co, rfl, hE, B3, Hc, Fo, B7, Bc, C3, Qj⟩;have B0 := Ext.refl Gz;have Hy := B7.lt;refine zq (zc (zc (zp (pD (iv 0) (.bool false) ?_))));refine pD (.bool false) (pw Co 0) ?_;refine pU (iv ja) (xl (ld3 (B7.1))) ?_;refine pT (iv ja) ?_;refine pU (.bool false) (ev_nne (show _ = Result.ok (Next.value (Value.bool (((ja : Nat) : Int) != ((ja : Nat) : Int)))) _ from by kernel_rfl) (by omega)) ?_;refine pT (.bool false) ?_;refine zn (cK [1,5,13,19,20,21,22,23,185] (fun L => ?_));refine zf ?_;refine cw_skip (zq (zc (cw_join (fun ws' Y => ∃ Jy K9 : Nat, ∃ Bi B8 : Nat, ∃ Ra : List Raw, ws' = [(1, .slice ai ni ci), (5, .bool true), (13, pw Bg 0), (19, sv Bi 0 3 B8), (20, iv k), (21, iv ja), (22, iv jb), (23, pw Co 0)] ∧ Ext w Y ∧ Ext Gz Y ∧ Now3 Y Bi Ra (Rep.updL N9 ja (Rep.unionF (N9 ja) (N9 jb))) ∧ Gz.heap.size ≤ Bi ∧ 3 ≤ B8 ∧ Gz.heap.size ≤ Y.heap.size) (fun hJ => ?_) ?_)))
           ·
            refine dE Tz78_6 (fun w' => w'.cell? ⟨Co, 0, none⟩ = some (iv ja) ∧ w'.cell? ⟨Co, 1, none⟩ = some (.slice Cy Cx D0)) (⟨B7.1, Bc.1⟩) (fun ops Q B15 hb hL hR hK => ?_);refine mv2 hb hE B0 fun hE B0=>?_;have Bu := hb.size;have Er := A2 (B7.c B0) (Bc.c B0);refine wW 1 (sv g9 0 3 c9) 2 (iv ja) hR Er ?_;refine wL 3 (sv g9 0 ja c9) hR (fun w _ => ex_slice (p := sv g9 0 3 c9) rfl (by kernel_rfl) (by kernel_rfl) (by kernel_rfl) (by kernel_rfl) (sl28_010 (m := ja) (by omega) (by omega))) Er ?_;refine wM 5 (.agg #[iv ja, .slice Cy Cx D0]) hR (fun w hS => ld25 (hS.1) (hS.2)) Er ?_;refine wW 8 (sv g9 0 3 c9) 9 (iv ja) hR Er ?_;refine wL 10 (iv ((ja + 1 : Nat) : Int)) hR (fun w _ => ev_wrap (by kernel_rfl) (by omega) (by omega)) Er ?_;refine wL 11 (.slice (if c9 = ja + 1 then (some (⟨g9, 0, none⟩ : Addr)) else (some (⟨g9, 0, none⟩ : Addr)).map (fun x => x.add ((ja + 1) * 2))) (3 - (ja + 1)) (c9 - (ja + 1))) hR (fun w _ => ex_slice (p := .slice ((some (⟨g9, 0, none⟩ : Addr))) 3 c9) rfl (by kernel_rfl) (by kernel_rfl) (by kernel_rfl) (by kernel_rfl) (sl28_100b (k := ja + 1) (by omega) (by omega))) Er ?_;refine zw 0 6 hR ?_ ?_
            ·
             refine sn_newS0 (t := 25) (by kernel_rfl) ?_;intro Jy Ua hO hOs hb Sh;have Sr := hO;have B3o : Jy < Ua.heap.size := (by omega);clear hO hOs;refine mv2 hb hE B0 fun hE B0=>?_;have Et := hb.size;have V8 := A2 (B7.c B0) (Bc.c B0);refine ⟨V8, ?_⟩;have G0 : OwnL rawR B15.heap.size 25 2 (sv Jy 0 0 0) Ua [] := OwnL.empty rawR Sh (Nat.le_of_eq Sr);have Kz := G0.lt;refine zw 4 6 hR ?_ ?_
             ·
              have Hk := Cc.trans B3;have B20 := G0.base;obtain ⟨Rl, R4, B44, Nm, Eh, I7, B2h, N5, Y8⟩ := app_rawsQ (c := c9) (m := ja) (sa := some ⟨g9, 0, none⟩) (l' := R9.take ja) (q := ja) (G0) Et (rfl : ([] : List Raw).length = 0) (Nat.le_refl 0) (((Gk.ext (Hk.trans B0))).lenT (by omega)) (((Gk.ext (Hk.trans B0))).take ja) rfl (by omega) (by omega);refine sn_eff (v := sv Rl 0 ja R4) (w' := B44) (ex_append rfl (by kernel_rfl) (by kernel_rfl) Nm) ?_;replace hE := I7.ext _ hE (by omega);replace B0 := I7.ext _ B0 Bu;have Lr := I7.size;have V9 := A2 (B7.c B0) (Bc.c B0);refine ⟨V9, ?_⟩;have B51 := Eh.base Rl rfl;have B4j := Eh.lt Rl rfl;have L3 := Eh.lt;refine wS 6 hR (sn_newS (us := #[iv ja, .slice Cy Cx D0]) (t := 25) (k := 1) (c := 1) (by kernel_rfl) ?_);intro K9 B6g M3 B3p hb hbx;have ⟨F4, Gq⟩ := bq2 hbx;refine mv3 hb hE B0 Eh fun hE B0 Eh=>?_;have Ls := hb.size;have B5x := F4.lt;have Va := A2 (B7.c B0) (Bc.c B0);refine ⟨Va, ?_⟩;have B21 := Eh.base;obtain ⟨Rm, R5, B46, Nn, G2, I8, Lb, N6, Y9⟩ := app_rawsQ (c := 1) (m := 1) (sa := some ⟨K9, 0, none⟩) (l' := (R9.take ja ++ [(ja, (Cy, Cx, D0))])) (q := ja + 1) (Eh) (T Et (T Lr Ls)) Y8 N5 rfl (.inr ⟨K9, 0, rfl, RawsB.one (s := (Cy, Cx, D0)) (F4.1) (Gq.1)⟩) rfl (by omega) (by omega);refine wS 7 hR (sn_eff (v := sv Rm 0 (ja + 1) R5) (w' := B46) (ex_append rfl (by kernel_rfl) (by kernel_rfl) Nn) ?_);replace hE := I8.ext _ hE (by omega);replace B0 := I8.ext _ B0 Bu;have Qn := I8.size;have Vb := A2 (B7.c B0) (Bc.c B0);refine ⟨Vb, ?_⟩;have B52 := G2.base Rm rfl;have B4k := G2.lt Rm rfl;have B1i := G2.lt;have B22 := G2.base;obtain ⟨Bi, B8, B08, Np, G3, I9, B2i, B0l, Qb⟩ := app_rawsQ (c := c9 - (ja + 1)) (m := 3 - (ja + 1)) (sa := if c9 = ja + 1 then (some (⟨g9, 0, none⟩ : Addr)) else (some (⟨g9, 0, none⟩ : Addr)).map (fun x => x.add ((ja + 1) * 2))) (l' := (R9.take ja ++ [(ja, (Cy, Cx, D0))] ++ R9.drop (ja + 1))) (q := 3) (G2) (T Et (T Lr (T Ls Qn))) Y9 N6 ((Gk.ext (Hk.trans B0))).lenD (((Gk.ext (Hk.trans B0))).tail (by omega) hcc) rfl (by omega) (by omega);refine wS 12 hR (sn_eff (v := sv Bi 0 3 B8) (w' := B08) (ex_append rfl (by kernel_rfl) (by kernel_rfl) Np) ?_);replace hE := I9.ext _ hE (by omega);replace B0 := I9.ext _ B0 Bu;have Zf := I9.size;have Pm := A2 (B7.c B0) (Bc.c B0);refine ⟨Pm, ?_⟩;have Ya := G3.base Bi rfl;have B4l := G3.lt Bi rfl;have B1j := G3.lt;obtain ⟨Ra, J7⟩ : ∃ R, Now3 B08 Bi R (Rep.updL N9 ja (Rep.unionF (N9 ja) (N9 jb))) := ⟨_, Now3.set ((Gk.ext (Hk.trans B0))) (by omega) ((Hc.ext B0)) Fo (own_raws G3 Qb)⟩;have Ef : Gz.heap.size ≤ Bi := (T Bu Ya);have En := Now3.cap G3 Qb;refine wV 13 (sv Bi 0 3 B8) hR Pm ?_;refine we hL hR hK ?_;exact zl hJ [1, 5, 13, 19, 20, 21, 22, 23] ⟨Jy, K9, Bi, B8, Ra, rfl, hE, B0, J7, Ef, En, (T Bu (T Et (T Lr (T Ls (T Qn Zf)))))⟩
             ·
              refine sn_newS (us := #[iv ja, .slice Cy Cx D0]) (t := 25) (k := 1) (c := 1) (by kernel_rfl) ?_;intro Qz B6i M4 B3q hb hbx;have ⟨F5, Gr⟩ := bq2 hbx;refine mv3 hb hE B0 G0 fun hE B0 G0=>?_;have Jq := hb.size;have B5y := F5.lt;have Vc := A2 (B7.c B0) (Bc.c B0);refine ⟨Vc, ?_⟩;have Hl := Cc.trans B3;have B23 := G0.base;obtain ⟨Rn, R6, B47, Nq, G4, Ia, Lc, N7, Yb⟩ := app_rawsQ (c := c9) (m := ja) (sa := some ⟨g9, 0, none⟩) (l' := R9.take ja) (q := ja) (G0) (T Et Jq) (rfl : ([] : List Raw).length = 0) (Nat.le_refl 0) (((Gk.ext (Hl.trans B0))).lenT (by omega)) (((Gk.ext (Hl.trans B0))).take ja) rfl (by omega) (by omega);refine wS 4 hR (sn_eff (v := sv Rn 0 ja R6) (w' := B47) (ex_append rfl (by kernel_rfl) (by kernel_rfl) Nq) ?_);replace F5 := BoxAt.grownR F5 Lc (own_not2 Kz (Nat.le_of_eq M4));replace Gr := BoxAt.grownR Gr Lc (own_not2 Kz (Nat.le_of_eq M4));replace hE := Ia.ext _ hE (by omega);replace B0 := Ia.ext _ B0 Bu;have Lt := Ia.size;have Ve := A2 (B7.c B0) (Bc.c B0);refine ⟨Ve, ?_⟩;have B53 := G4.base Rn rfl;have B4m := G4.lt Rn rfl;have B1k := G4.lt;have B24 := G4.base;obtain ⟨Ro, R7, B48, Nr, G5, Ib, B2j, Na, Yc⟩ := app_rawsQ (c := 1) (m := 1) (sa := some ⟨Qz, 0, none⟩) (l' := (R9.take ja ++ [(ja, (Cy, Cx, D0))])) (q := ja + 1) (G4) (T Et (T Jq Lt)) Yb N7 rfl (.inr ⟨Qz, 0, rfl, RawsB.one (s := (Cy, Cx, D0)) (F5.1) (Gr.1)⟩) rfl (by omega) (by omega);refine wS 7 hR (sn_eff (v := sv Ro 0 (ja + 1) R7) (w' := B48) (ex_append rfl (by kernel_rfl) (by kernel_rfl) Nr) ?_);replace hE := Ib.ext _ hE (by omega);replace B0 := Ib.ext _ B0 Bu;have Qp := Ib.size;have Vg := A2 (B7.c B0) (Bc.c B0);refine ⟨Vg, ?_⟩;have B54 := G5.base Ro rfl;have B4n := G5.lt Ro rfl;have B1l := G5.lt;have B26 := G5.base;obtain ⟨H3, Gu, B09, Ns, G6, Ic, B2k, B0m, Qd⟩ := app_rawsQ (c := c9 - (ja + 1)) (m := 3 - (ja + 1)) (sa := if c9 = ja + 1 then (some (⟨g9, 0, none⟩ : Addr)) else (some (⟨g9, 0, none⟩ : Addr)).map (fun x => x.add ((ja + 1) * 2))) (l' := (R9.take ja ++ [(ja, (Cy, Cx, D0))] ++ R9.drop (ja + 1))) (q := 3) (G5) (T Et (T Jq (T Lt Qp))) Yc Na ((Gk.ext (Hl.trans B0))).lenD (((Gk.ext (Hl.trans B0))).tail (by omega) hcc) rfl (by omega) (by omega);refine wS 12 hR (sn_eff (v := sv H3 0 3 Gu) (w' := B09) (ex_append rfl (by kernel_rfl) (by kernel_rfl) Ns) ?_);replace hE := Ic.ext _ hE (by omega);replace B0 := Ic.ext _ B0 Bu;have Zg := Ic.size;have Pn := A2 (B7.c B0) (Bc.c B0);refine ⟨Pn, ?_⟩;have Yd := G6.base H3 rfl;have B4o := G6.lt H3 rfl;have B1m := G6.lt;obtain ⟨Ra, Uk⟩ : ∃ R, Now3 B09 H3 R (Rep.updL N9 ja (Rep.unionF (N9 ja) (N9 jb))) := ⟨_, Now3.set ((Gk.ext (Hl.trans B0))) (by omega) ((Hc.ext B0)) Fo (own_raws G6 Qd)⟩;have S8 : Gz.heap.size ≤ H3 := (T Bu Yd);have Ry := Now3.cap G6 Qd;refine wV 13 (sv H3 0 3 Gu) hR Pn ?_;refine we hL hR hK ?_;exact zl hJ [1, 5, 13, 19, 20, 21, 22, 23] ⟨Jy, Qz, H3, Gu, Ra, rfl, hE, B0, Uk, S8, Ry, (T Bu (T Et (T Jq (T Lt (T Qp Zg)))))⟩
            ·
             refine sn_newS (us := #[iv ja, .slice Cy Cx D0]) (t := 25) (k := 1) (c := 1) (by kernel_rfl) ?_;intro R1 B16 B40 B3r hb hbx;have ⟨D6, Dh⟩ := bq2 hbx;refine mv2 hb hE B0 fun hE B0=>?_;have Eu := hb.size;have Jv := D6.lt;have Vh := A2 (B7.c B0) (Bc.c B0);refine ⟨Vh, ?_⟩;refine wS 0 hR (sn_newS0 (t := 25) (by kernel_rfl) ?_);intro R2 Ub hO hOs hb Si;have Ss := hO;have B3s : R2 < Ub.heap.size := (by omega);clear hO hOs;refine mv4 hb hE B0 D6 Dh fun hE B0 D6 Dh=>?_;have Jr := hb.size;have Vi := A2 (B7.c B0) (Bc.c B0);refine ⟨Vi, ?_⟩;have Mn : OwnL rawR B16.heap.size 25 2 (sv R2 0 0 0) Ub [] := OwnL.empty rawR Si (Nat.le_of_eq Ss);have B1n := Mn.lt;have Hm := Cc.trans B3;have L6 := Mn.base;obtain ⟨Rp, Rc, B49, Nu, G7, Ie, Ld, Nb, Ye⟩ := app_rawsQ (c := c9) (m := ja) (sa := some ⟨g9, 0, none⟩) (l' := R9.take ja) (q := ja) (Mn) Jr (rfl : ([] : List Raw).length = 0) (Nat.le_refl 0) (((Gk.ext (Hm.trans B0))).lenT (by omega)) (((Gk.ext (Hm.trans B0))).take ja) rfl (by omega) (by omega);refine wS 4 hR (sn_eff (v := sv Rp 0 ja Rc) (w' := B49) (ex_append rfl (by kernel_rfl) (by kernel_rfl) Nu) ?_);replace D6 := BoxAt.grownR D6 Ld (own_not L6 (Nat.lt_of_lt_of_le Jv (Nat.le_refl _)));replace Dh := BoxAt.grownR Dh Ld (own_not L6 (Nat.lt_of_lt_of_le Jv (Nat.le_refl _)));replace hE := Ie.ext _ hE (by omega);replace B0 := Ie.ext _ B0 (T Bu Eu);have Lu := Ie.size;have Vj := A2 (B7.c B0) (Bc.c B0);refine ⟨Vj, ?_⟩;have B55 := G7.base Rp rfl;have B4p := G7.lt Rp rfl;have B1o := G7.lt;have L7 := G7.base;obtain ⟨Rq, Rd, B4a, Nv, G8, Ig, Le, Nd, Yf⟩ := app_rawsQ (c := 1) (m := 1) (sa := some ⟨R1, 0, none⟩) (l' := (R9.take ja ++ [(ja, (Cy, Cx, D0))])) (q := ja + 1) (G7) (T Jr Lu) Ye Nb rfl (.inr ⟨R1, 0, rfl, RawsB.one (s := (Cy, Cx, D0)) (D6.1) (Dh.1)⟩) rfl (by omega) (by omega);refine wS 7 hR (sn_eff (v := sv Rq 0 (ja + 1) Rd) (w' := B4a) (ex_append rfl (by kernel_rfl) (by kernel_rfl) Nv) ?_);replace hE := Ig.ext _ hE (by omega);replace B0 := Ig.ext _ B0 (T Bu Eu);have Qq := Ig.size;have Vk := A2 (B7.c B0) (Bc.c B0);refine ⟨Vk, ?_⟩;have B56 := G8.base Rq rfl;have B4q := G8.lt Rq rfl;have B1p := G8.lt;have B27 := G8.base;obtain ⟨H4, Gv, B0a, Ny, G9, Ih, B2l, B0n, Qe⟩ := app_rawsQ (c := c9 - (ja + 1)) (m := 3 - (ja + 1)) (sa := if c9 = ja + 1 then (some (⟨g9, 0, none⟩ : Addr)) else (some (⟨g9, 0, none⟩ : Addr)).map (fun x => x.add ((ja + 1) * 2))) (l' := (R9.take ja ++ [(ja, (Cy, Cx, D0))] ++ R9.drop (ja + 1))) (q := 3) (G8) (T Jr (T Lu Qq)) Yf Nd ((Gk.ext (Hm.trans B0))).lenD (((Gk.ext (Hm.trans B0))).tail (by omega) hcc) rfl (by omega) (by omega);refine wS 12 hR (sn_eff (v := sv H4 0 3 Gv) (w' := B0a) (ex_append rfl (by kernel_rfl) (by kernel_rfl) Ny) ?_);replace hE := Ih.ext _ hE (by omega);replace B0 := Ih.ext _ B0 (T Bu Eu);have Zh := Ih.size;have Pp := A2 (B7.c B0) (Bc.c B0);refine ⟨Pp, ?_⟩;have Yg := G9.base H4 rfl;have B4r := G9.lt H4 rfl;have B1q := G9.lt;obtain ⟨Ra, Ul⟩ : ∃ R, Now3 B0a H4 R (Rep.updL N9 ja (Rep.unionF (N9 ja) (N9 jb))) := ⟨_, Now3.set ((Gk.ext (Hm.trans B0))) (by omega) ((Hc.ext B0)) Fo (own_raws G9 Qe)⟩;have S9 : Gz.heap.size ≤ H4 := (T (T Bu Eu) Yg);have Rz := Now3.cap G9 Qe;refine wV 13 (sv H4 0 3 Gv) hR Pp ?_;refine we hL hR hK ?_;exact zl hJ [1, 5, 13, 19, 20, 21, 22, 23] ⟨R2, R1, H4, Gv, Ra, rfl, hE, B0, Ul, S9, Rz, (T Bu (T Eu (T Jr (T Lu (T Qq Zh)))))⟩
           ·
            clear hE B0;rintro L ws Mx ⟨Jy, K9, Bi, B8, Ra, rfl, hE, B0, J7, Ef, En, Dd⟩;have Jl := Ext.refl Mx;refine zq (zc (cw_seq ?_));have B6z := (J7).lt;have K3 := hno.set hA.kd hja hjb;have Ek := J7;obtain ⟨N1, My⟩ : ∃ N, N = Rep.updL N9 ja (Rep.unionF (N9 ja) (N9 jb)) := ⟨_, rfl⟩;rw [← My] at K3 Ek;refine cw_join (fun ws' wr => ∃ q28 : Bool, ws' = [(1, .slice ai ni ci), (5, .bool true), (13, pw Bg 0), (19, sv Bi 0 3 B8), (20, iv k), (21, iv ja), (22, iv jb), (23, pw Co 0), (206, .bool q28)] ∧ Mx.heap.size ≤ wr.heap.size ∧ Ext w wr ∧ Ext Mx wr ∧ Now3 wr Bi Ra N1 ∧ q28 = decide (k < ni ∧ k < 8)) (fun hJ => ?_) ?_
            ·
             refine zp (pD (iv k) (.slice ai ni ci) ?_);refine pT (iv ni) ?_
             by_cases Q7 : ((k : Nat) : Int) < ((ni : Nat) : Int)
             ·
              refine pU (.bool true) (ed (((k : Nat) : Int) < ((ni : Nat) : Int)) (Q7)) ?_;refine pD (.bool true) (iv k) ?_
              by_cases Q8 : ((k : Nat) : Int) < (8 : Int)
              ·
               refine pU (.bool true) (ed (((k : Nat) : Int) < (8 : Int)) (Q8)) ?_;refine pT (.bool true) ?_;refine pl_nil ?_;exact zl hJ [1, 5, 13, 19, 20, 21, 22, 23, 206] ⟨true, rfl, (Nat.le_refl _), hE, (Ext.refl _), Ek, (decide_eq_true (by omega)).symm⟩
              ·
               refine pU (.bool false) (en (((k : Nat) : Int) < (8 : Int)) (Q8)) ?_;refine pT (.bool false) ?_;refine pl_nil ?_;exact zl hJ [1, 5, 13, 19, 20, 21, 22, 23, 206] ⟨false, rfl, (Nat.le_refl _), hE, (Ext.refl _), Ek, (decide_eq_false (by omega)).symm⟩
             ·
              refine pU (.bool false) (en (((k : Nat) : Int) < ((ni : Nat) : Int)) (Q7)) ?_;refine pT (.bool false) ?_;refine pK ?_;refine pK ?_;refine pT (.bool false) ?_;refine pl_nil ?_;exact zl hJ [1, 5, 13, 19, 20, 21, 22, 23, 206] ⟨false, rfl, (Nat.le_refl _), hE, (Ext.refl _), Ek, (decide_eq_false (by omega)).symm⟩
            ·
             clear Ek hE Jl;rintro L ws B0b ⟨q28, rfl, De, hE, Jl, Ek, Ys⟩;refine qw_then ?_
             cases q28
             ·
              have hq8 := of_decide_eq_false Ys.symm;refine zf ?_;refine cw_skip (zq (cw_seq ?_));obtain ⟨ar, nr, cr, Fu, Fv, Hr, hcr⟩ := (Ek).at (j := jb) (by omega);have Fh := Ext.refl B0b;obtain ⟨av, nv, cv, Fx, Fy, Hv, hcv⟩ := (Ek).at (j := ja) (by omega);refine dE Tz78_7 (fun w' => w'.cell? ⟨Bi, jb * 2, none⟩ = some (iv jb) ∧ w'.cell? ⟨Bi, jb * 2 + 1, none⟩ = some (.slice ar nr cr) ∧ w'.cell? ⟨Bi, ja * 2, none⟩ = some (iv ja) ∧ w'.cell? ⟨Bi, ja * 2 + 1, none⟩ = some (.slice av nv cv)) (⟨Fu, Fv, Fx, Fy⟩) (fun ops Q B6j hb hL hR hK => ?_);refine mv3 hb hE Fh Ek fun hE Fh Ek=>?_;replace Fu := hb.cell Fu;replace Fv := hb.cell Fv;replace Fx := hb.cell Fx;replace Fy := hb.cell Fy;have Dm := hb.size;have hS := A4 Fu Fv Fx Fy;refine wW 0 (sv Bi 0 3 B8) 1 (iv jb) hR hS ?_;refine wL 2 (pw Bi (jb * 2)) hR (fun w _ => ex_index (p := sv Bi 0 3 B8) (i := iv jb) rfl (by kernel_rfl) (by kernel_rfl) (ix28z (k := jb) (by omega))) hS ?_;refine wM 3 (.agg #[iv jb, .slice ar nr cr]) hR (fun w hS => ld25 (hS.1) (hS.2.1)) hS ?_;refine wW 4 (sv Bi 0 3 B8) 5 (iv ja) hR hS ?_;refine wL 6 (pw Bi (ja * 2)) hR (fun w _ => ex_index (p := sv Bi 0 3 B8) (i := iv ja) rfl (by kernel_rfl) (by kernel_rfl) (ix28z (k := ja) (by omega))) hS ?_;refine wM 7 (.agg #[iv ja, .slice av nv cv]) hR (fun w hS => ld25 (hS.2.2.1) (hS.2.2.2)) hS ?_;refine wC 8 26 #[.agg #[iv jb, .slice ar nr cr], .agg #[iv ja, .slice av nv cv]] hR ((Merge_y _ _ _ ((Hr.ext Fh)) (Ext.refl _) ((Hv.ext Fh)) (Ext.refl _) (hRl.ext hE) (hA.merge K3 hjb hja)).mono ?_);rintro e U0 ⟨Dq, Dx, Dw, rfl, Uv, It, B33, hb⟩;refine mv3 hb hE Fh Ek fun hE Fh Ek=>?_;replace Fu := hb.cell Fu;replace Fv := hb.cell Fv;replace Fx := hb.cell Fx;replace Fy := hb.cell Fy;have Dn := hb.size;have Kr := Ext.refl U0;have hS := A4 Fu Fv Fx Fy;refine ⟨_, rfl, hS, ?_⟩;refine wW 9 (.tuple #[.agg #[iv jb, .slice Dq Dx Dw], iv 0]) 10 (.agg #[iv jb, .slice Dq Dx Dw]) hR hS ?_;refine wV 11 (iv 0) hR hS ?_;have Wo := Jl.trans Fh;have Kw := B0.trans Wo;have ht9 := Ek;have P8 := (B7.x (Kw.trans Kr));have K4 := (Bc.x (Kw.trans Kr));have hl9 := Uv;refine wS 12 hR (sn_set2C (O := Co) (j := 0) (v := iv jb) (v' := .slice Dq Dx Dw) (ex_store (p := pw Co 0) (v := .agg #[iv jb, .slice Dq Dx Dw]) rfl (by kernel_rfl) (by kernel_rfl) (st25 P8.1 P8.2 K4.1 K4.2)) P8 K4 ?_);intro Jz Ql E6 E7 hk9;have Cz := ht9.keep2 K4.1 hk9 (Nat.ne_of_lt (Nat.lt_of_lt_of_le Hy Ef));have Kl := hl9.keep2 K4.1 hk9;have Wp := B3.trans Kw;have Hi := (Wp.trans Kr);replace hE := Ql.ext hE (by omega);replace Hi := Ql.ext Hi Qj;replace Fu := Ql.cell (Nat.ne_of_lt (Nat.lt_of_lt_of_le Hy Ef)) Fu;replace Fv := Ql.cell (Nat.ne_of_lt (Nat.lt_of_lt_of_le Hy Ef)) Fv;replace Fx := Ql.cell (Nat.ne_of_lt (Nat.lt_of_lt_of_le Hy Ef)) Fx;replace Fy := Ql.cell (Nat.ne_of_lt (Nat.lt_of_lt_of_le Hy Ef)) Fy;have Do : U0.heap.size ≤ Jz.heap.size := Nat.le_of_eq Ql.size.symm;clear Ql ht9 P8 K4 hl9 hk9;refine ⟨⟨Fu, Fv, Fx, Fy⟩, ?_⟩;refine wV 13 (iv 0) hR (⟨Fu, Fv, Fx, Fy⟩) ?_;refine we hL hR hK ?_;refine zq (cK [1,5,13,19,20,22,23,24] (fun L => ?_));refine zc (zc (zp (pD (iv 0) (.bool false) ?_)));refine zn (zf ?_);refine cw_skip ?_;refine qw_then ?_;have B2 := Ext.refl Jz;refine dE Tz78_8 (fun w' => w'.cell? ⟨Co, 0, none⟩ = some (iv jb) ∧ w'.cell? ⟨Co, 1, none⟩ = some (.slice Dq Dx Dw)) (⟨E6.1, E7.1⟩) (fun ops Q B17 hb hL hR hK => ?_);refine mv2 hb hE B2 fun hE B2=>?_;have Bv := hb.size;have Es := A2 (E6.c B2) (E7.c B2);refine wW 1 (sv Bi 0 3 B8) 2 (iv jb) hR Es ?_;refine wL 3 (sv Bi 0 jb B8) hR (fun w _ => ex_slice (p := sv Bi 0 3 B8) rfl (by kernel_rfl) (by kernel_rfl) (by kernel_rfl) (by kernel_rfl) (sl28_010 (m := jb) (by omega) (by omega))) Es ?_;refine wM 5 (.agg #[iv jb, .slice Dq Dx Dw]) hR (fun w hS => ld25 (hS.1) (hS.2)) Es ?_;refine wW 8 (sv Bi 0 3 B8) 9 (iv jb) hR Es ?_;refine wL 10 (iv ((jb + 1 : Nat) : Int)) hR (fun w _ => ev_wrap (by kernel_rfl) (by omega) (by omega)) Es ?_;refine wL 11 (.slice (if B8 = jb + 1 then (some (⟨Bi, 0, none⟩ : Addr)) else (some (⟨Bi, 0, none⟩ : Addr)).map (fun x => x.add ((jb + 1) * 2))) (3 - (jb + 1)) (B8 - (jb + 1))) hR (fun w _ => ex_slice (p := .slice ((some (⟨Bi, 0, none⟩ : Addr))) 3 B8) rfl (by kernel_rfl) (by kernel_rfl) (by kernel_rfl) (by kernel_rfl) (sl28_100b (k := jb + 1) (by omega) (by omega))) Es ?_;refine zw 0 6 hR ?_ ?_
              ·
               refine sn_newS0 (t := 25) (by kernel_rfl) ?_;intro U4 Uc hO hOs hb Sj;have Su := hO;have B3t : U4 < Uc.heap.size := (by omega);clear hO hOs;refine mv2 hb hE B2 fun hE B2=>?_;have Ev := hb.size;have Vl := A2 (E6.c B2) (E7.c B2);refine ⟨Vl, ?_⟩;have G1 : OwnL rawR B17.heap.size 25 2 (sv U4 0 0 0) Uc [] := OwnL.empty rawR Sj (Nat.le_of_eq Su);have L4 := G1.lt;refine zw 4 6 hR ?_ ?_
               ·
                have B28 := G1.base;obtain ⟨Rr, Re, B4b, Nz, Ei, Ii, B2m, Nf, Yh⟩ := app_rawsQ (c := B8) (m := jb) (sa := some ⟨Bi, 0, none⟩) (l' := Ra.take jb) (q := jb) (G1) Ev (rfl : ([] : List Raw).length = 0) (Nat.le_refl 0) (((Cz.ext B2)).lenT (by omega)) (((Cz.ext B2)).take jb) rfl (by omega) (by omega);refine sn_eff (v := sv Rr 0 jb Re) (w' := B4b) (ex_append rfl (by kernel_rfl) (by kernel_rfl) Nz) ?_;replace hE := Ii.ext _ hE (by omega);replace B2 := Ii.ext _ B2 Bv;have Lv := Ii.size;have Vm := A2 (E6.c B2) (E7.c B2);refine ⟨Vm, ?_⟩;have B57 := Ei.base Rr rfl;have B4s := Ei.lt Rr rfl;have L5 := Ei.lt;refine wS 6 hR (sn_newS (us := #[iv jb, .slice Dq Dx Dw]) (t := 25) (k := 1) (c := 1) (by kernel_rfl) ?_);intro U5 B6k M5 B3u hb hbx;have ⟨F6, Gs⟩ := bq2 hbx;refine mv3 hb hE B2 Ei fun hE B2 Ei=>?_;have Lw := hb.size;have B5z := F6.lt;have Vn := A2 (E6.c B2) (E7.c B2);refine ⟨Vn, ?_⟩;have B2a := Ei.base;obtain ⟨Rs, Rf, B4c, P0, Ga, Ij, Lf, Ng, Yi⟩ := app_rawsQ (c := 1) (m := 1) (sa := some ⟨U5, 0, none⟩) (l' := (Ra.take jb ++ [(jb, (Dq, Dx, Dw))])) (q := jb + 1) (Ei) (T Ev (T Lv Lw)) Yh Nf rfl (.inr ⟨U5, 0, rfl, RawsB.one (s := (Dq, Dx, Dw)) (F6.1) (Gs.1)⟩) rfl (by omega) (by omega);refine wS 7 hR (sn_eff (v := sv Rs 0 (jb + 1) Rf) (w' := B4c) (ex_append rfl (by kernel_rfl) (by kernel_rfl) P0) ?_);replace hE := Ij.ext _ hE (by omega);replace B2 := Ij.ext _ B2 Bv;have Qr := Ij.size;have Vo := A2 (E6.c B2) (E7.c B2);refine ⟨Vo, ?_⟩;have B58 := Ga.base Rs rfl;have B4t := Ga.lt Rs rfl;have B1r := Ga.lt;have B2b := Ga.base;obtain ⟨H5, Gw, B0c, P1, Gb, Ik, B2n, B0o, Qf⟩ := app_rawsQ (c := B8 - (jb + 1)) (m := 3 - (jb + 1)) (sa := if B8 = jb + 1 then (some (⟨Bi, 0, none⟩ : Addr)) else (some (⟨Bi, 0, none⟩ : Addr)).map (fun x => x.add ((jb + 1) * 2))) (l' := (Ra.take jb ++ [(jb, (Dq, Dx, Dw))] ++ Ra.drop (jb + 1))) (q := 3) (Ga) (T Ev (T Lv (T Lw Qr))) Yi Ng ((Cz.ext B2)).lenD (((Cz.ext B2)).tail (by omega) En) rfl (by omega) (by omega);refine wS 12 hR (sn_eff (v := sv H5 0 3 Gw) (w' := B0c) (ex_append rfl (by kernel_rfl) (by kernel_rfl) P1) ?_);replace hE := Ik.ext _ hE (by omega);replace B2 := Ik.ext _ B2 Bv;have Zi := Ik.size;have Pq := A2 (E6.c B2) (E7.c B2);refine ⟨Pq, ?_⟩;have Yj := Gb.base H5 rfl;have B4u := Gb.lt H5 rfl;have B1s := Gb.lt;obtain ⟨Rb, Um⟩ : ∃ R, Now3 B0c H5 R (Rep.updL N1 jb (Rep.unionF (N1 jb) (N1 ja))) := ⟨_, Now3.set ((Cz.ext B2)) (by omega) ((Kl.ext B2)) It (own_raws Gb Qf)⟩;have B2v : Jz.heap.size ≤ H5 := (T Bv Yj);have S0 := Now3.cap Gb Qf;refine wV 13 (sv H5 0 3 Gw) hR Pq ?_;refine we hL hR hK ?_;refine qw_block (zq (cK [1,5,13,19,20] (fun L => ?_)));refine zp (pT (iv k) ?_);refine pU (iv ((k + 1 : Nat) : Int)) (ew (by omega) (by omega)) ?_;refine pT (iv ((k + 1 : Nat) : Int)) ?_;refine pl_nil ?_;have Wq := Cc.trans Hi;have Wr := Cb.trans Wq;refine zr [1, 5, 13, 19, 20] _ ?_ ⟨(k + 1), H5, Gw, Rb, (Rep.updL N1 jb (Rep.unionF (N1 jb) (N1 ja))), rfl, rfl, (by omega), hE, (Wr.trans B2), Um, by omega, S0, (K3.set hA.kd hjb hja), (fun e => by rw [My]; exact hA.step hno (hjr e).1 (hjr e).2 (hrd e))⟩;omega
               ·
                refine sn_newS (us := #[iv jb, .slice Dq Dx Dw]) (t := 25) (k := 1) (c := 1) (by kernel_rfl) ?_;intro U6 B6l M6 B3v hb hbx;have ⟨F7, Gt⟩ := bq2 hbx;refine mv3 hb hE B2 G1 fun hE B2 G1=>?_;have Js := hb.size;have B60 := F7.lt;have Vp := A2 (E6.c B2) (E7.c B2);refine ⟨Vp, ?_⟩;have B2c := G1.base;obtain ⟨Rt, Rg, B4d, P2, Gc, Il, Lg, Nh, Yk⟩ := app_rawsQ (c := B8) (m := jb) (sa := some ⟨Bi, 0, none⟩) (l' := Ra.take jb) (q := jb) (G1) (T Ev Js) (rfl : ([] : List Raw).length = 0) (Nat.le_refl 0) (((Cz.ext B2)).lenT (by omega)) (((Cz.ext B2)).take jb) rfl (by omega) (by omega);refine wS 4 hR (sn_eff (v := sv Rt 0 jb Rg) (w' := B4d) (ex_append rfl (by kernel_rfl) (by kernel_rfl) P2) ?_);replace F7 := BoxAt.grownR F7 Lg (own_not2 L4 (Nat.le_of_eq M6));replace Gt := BoxAt.grownR Gt Lg (own_not2 L4 (Nat.le_of_eq M6));replace hE := Il.ext _ hE (by omega);replace B2 := Il.ext _ B2 Bv;have Lx := Il.size;have Vq := A2 (E6.c B2) (E7.c B2);refine ⟨Vq, ?_⟩;have B59 := Gc.base Rt rfl;have B4v := Gc.lt Rt rfl;have B1t := Gc.lt;have B2d := Gc.base;obtain ⟨Ru, Rh, B4e, P3, Gd, Im, B2o, Ni, Yl⟩ := app_rawsQ (c := 1) (m := 1) (sa := some ⟨U6, 0, none⟩) (l' := (Ra.take jb ++ [(jb, (Dq, Dx, Dw))])) (q := jb + 1) (Gc) (T Ev (T Js Lx)) Yk Nh rfl (.inr ⟨U6, 0, rfl, RawsB.one (s := (Dq, Dx, Dw)) (F7.1) (Gt.1)⟩) rfl (by omega) (by omega);refine wS 7 hR (sn_eff (v := sv Ru 0 (jb + 1) Rh) (w' := B4e) (ex_append rfl (by kernel_rfl) (by kernel_rfl) P3) ?_);replace hE := Im.ext _ hE (by omega);replace B2 := Im.ext _ B2 Bv;have Qs := Im.size;have Vr := A2 (E6.c B2) (E7.c B2);refine ⟨Vr, ?_⟩;have B5a := Gd.base Ru rfl;have B4w := Gd.lt Ru rfl;have B1u := Gd.lt;have B2e := Gd.base;obtain ⟨H6, Gx, B0d, P4, Ge, Io, B2p, B0p, Qh⟩ := app_rawsQ (c := B8 - (jb + 1)) (m := 3 - (jb + 1)) (sa := if B8 = jb + 1 then (some (⟨Bi, 0, none⟩ : Addr)) else (some (⟨Bi, 0, none⟩ : Addr)).map (fun x => x.add ((jb + 1) * 2))) (l' := (Ra.take jb ++ [(jb, (Dq, Dx, Dw))] ++ Ra.drop (jb + 1))) (q := 3) (Gd) (T Ev (T Js (T Lx Qs))) Yl Ni ((Cz.ext B2)).lenD (((Cz.ext B2)).tail (by omega) En) rfl (by omega) (by omega);refine wS 12 hR (sn_eff (v := sv H6 0 3 Gx) (w' := B0d) (ex_append rfl (by kernel_rfl) (by kernel_rfl) P4) ?_);replace hE := Io.ext _ hE (by omega);replace B2 := Io.ext _ B2 Bv;have Zj := Io.size;have Pr := A2 (E6.c B2) (E7.c B2);refine ⟨Pr, ?_⟩;have Ym := Ge.base H6 rfl;have B4x := Ge.lt H6 rfl;have B1v := Ge.lt;obtain ⟨Rb, Un⟩ : ∃ R, Now3 B0d H6 R (Rep.updL N1 jb (Rep.unionF (N1 jb) (N1 ja))) := ⟨_, Now3.set ((Cz.ext B2)) (by omega) ((Kl.ext B2)) It (own_raws Ge Qh)⟩;have B2w : Jz.heap.size ≤ H6 := (T Bv Ym);have S1 := Now3.cap Ge Qh;refine wV 13 (sv H6 0 3 Gx) hR Pr ?_;refine we hL hR hK ?_;refine qw_block (zq (cK [1,5,13,19,20] (fun L => ?_)));refine zp (pT (iv k) ?_);refine pU (iv ((k + 1 : Nat) : Int)) (ew (by omega) (by omega)) ?_;refine pT (iv ((k + 1 : Nat) : Int)) ?_;refine pl_nil ?_;have Ws := Cc.trans Hi;have Wt := Cb.trans Ws;refine zr [1, 5, 13, 19, 20] _ ?_ ⟨(k + 1), H6, Gx, Rb, (Rep.updL N1 jb (Rep.unionF (N1 jb) (N1 ja))), rfl, rfl, (by omega), hE, (Wt.trans B2), Un, by omega, S1, (K3.set hA.kd hjb hja), (fun e => by rw [My]; exact hA.step hno (hjr e).1 (hjr e).2 (hrd e))⟩;omega
              ·
               refine sn_newS (us := #[iv jb, .slice Dq Dx Dw]) (t := 25) (k := 1) (c := 1) (by kernel_rfl) ?_;intro U7 B18 B41 B3w hb hbx;have ⟨D7, Di⟩ := bq2 hbx;refine mv2 hb hE B2 fun hE B2=>?_;have Ew := hb.size;have Jw := D7.lt;have Vs := A2 (E6.c B2) (E7.c B2);refine ⟨Vs, ?_⟩;refine wS 0 hR (sn_newS0 (t := 25) (by kernel_rfl) ?_);intro U8 Ud hO hOs hb Sk;have Sv := hO;have B3x : U8 < Ud.heap.size := (by omega);clear hO hOs;refine mv4 hb hE B2 D7 Di fun hE B2 D7 Di=>?_;have Jt := hb.size;have Vt := A2 (E6.c B2) (E7.c B2);refine ⟨Vt, ?_⟩;have Mo : OwnL rawR B18.heap.size 25 2 (sv U8 0 0 0) Ud [] := OwnL.empty rawR Sk (Nat.le_of_eq Sv);have B1w := Mo.lt;have L8 := Mo.base;obtain ⟨Rv, Ri, B4f, P5, Gf, Ip, Lh, Nj, Yn⟩ := app_rawsQ (c := B8) (m := jb) (sa := some ⟨Bi, 0, none⟩) (l' := Ra.take jb) (q := jb) (Mo) Jt (rfl : ([] : List Raw).length = 0) (Nat.le_refl 0) (((Cz.ext B2)).lenT (by omega)) (((Cz.ext B2)).take jb) rfl (by omega) (by omega);refine wS 4 hR (sn_eff (v := sv Rv 0 jb Ri) (w' := B4f) (ex_append rfl (by kernel_rfl) (by kernel_rfl) P5) ?_);replace D7 := BoxAt.grownR D7 Lh (own_not L8 (Nat.lt_of_lt_of_le Jw (Nat.le_refl _)));replace Di := BoxAt.grownR Di Lh (own_not L8 (Nat.lt_of_lt_of_le Jw (Nat.le_refl _)));replace hE := Ip.ext _ hE (by omega);replace B2 := Ip.ext _ B2 (T Bv Ew);have Ly := Ip.size;have Vu := A2 (E6.c B2) (E7.c B2);refine ⟨Vu, ?_⟩;have B5b := Gf.base Rv rfl;have B4y := Gf.lt Rv rfl;have B1x := Gf.lt;have La := Gf.base;obtain ⟨Rw, Rj, B4g, P6, Gg, Iq, Li, Nl, Yo⟩ := app_rawsQ (c := 1) (m := 1) (sa := some ⟨U7, 0, none⟩) (l' := (Ra.take jb ++ [(jb, (Dq, Dx, Dw))])) (q := jb + 1) (Gf) (T Jt Ly) Yn Nj rfl (.inr ⟨U7, 0, rfl, RawsB.one (s := (Dq, Dx, Dw)) (D7.1) (Di.1)⟩) rfl (by omega) (by omega);refine wS 7 hR (sn_eff (v := sv Rw 0 (jb + 1) Rj) (w' := B4g) (ex_append rfl (by kernel_rfl) (by kernel_rfl) P6) ?_);replace hE := Iq.ext _ hE (by omega);replace B2 := Iq.ext _ B2 (T Bv Ew);have Qu := Iq.size;have Vw := A2 (E6.c B2) (E7.c B2);refine ⟨Vw, ?_⟩;have B5c := Gg.base Rw rfl;have B4z := Gg.lt Rw rfl;have B1y := Gg.lt;have B2f := Gg.base;obtain ⟨Ha, Gy, B0e, P7, Gh, Ir, B2q, B0q, Qi⟩ := app_rawsQ (c := B8 - (jb + 1)) (m := 3 - (jb + 1)) (sa := if B8 = jb + 1 then (some (⟨Bi, 0, none⟩ : Addr)) else (some (⟨Bi, 0, none⟩ : Addr)).map (fun x => x.add ((jb + 1) * 2))) (l' := (Ra.take jb ++ [(jb, (Dq, Dx, Dw))] ++ Ra.drop (jb + 1))) (q := 3) (Gg) (T Jt (T Ly Qu)) Yo Nl ((Cz.ext B2)).lenD (((Cz.ext B2)).tail (by omega) En) rfl (by omega) (by omega);refine wS 12 hR (sn_eff (v := sv Ha 0 3 Gy) (w' := B0e) (ex_append rfl (by kernel_rfl) (by kernel_rfl) P7) ?_);replace hE := Ir.ext _ hE (by omega);replace B2 := Ir.ext _ B2 (T Bv Ew);have Zk := Ir.size;have Ps := A2 (E6.c B2) (E7.c B2);refine ⟨Ps, ?_⟩;have Yp := Gh.base Ha rfl;have B50 := Gh.lt Ha rfl;have B1z := Gh.lt;obtain ⟨Rb, Uo⟩ : ∃ R, Now3 B0e Ha R (Rep.updL N1 jb (Rep.unionF (N1 jb) (N1 ja))) := ⟨_, Now3.set ((Cz.ext B2)) (by omega) ((Kl.ext B2)) It (own_raws Gh Qi)⟩;have B2x : Jz.heap.size ≤ Ha := (T (T Bv Ew) Yp);have S2 := Now3.cap Gh Qi;refine wV 13 (sv Ha 0 3 Gy) hR Ps ?_;refine we hL hR hK ?_;refine qw_block (zq (cK [1,5,13,19,20] (fun L => ?_)));refine zp (pT (iv k) ?_);refine pU (iv ((k + 1 : Nat) : Int)) (ew (by omega) (by omega)) ?_;refine pT (iv ((k + 1 : Nat) : Int)) ?_;refine pl_nil ?_;have Wu := Cc.trans Hi;have Wv := Cb.trans Wu;refine zr [1, 5, 13, 19, 20] _ ?_ ⟨(k + 1), Ha, Gy, Rb, (Rep.updL N1 jb (Rep.unionF (N1 jb) (N1 ja))), rfl, rfl, (by omega), hE, (Wv.trans B2), Uo, by omega, S2, (K3.set hA.kd hjb hja), (fun e => by rw [My]; exact hA.step hno (hjr e).1 (hjr e).2 (hrd e))⟩;omega
             ·
              have hq8 := of_decide_eq_true Ys.symm;refine zt ?_;refine cw_exit (qw_then_exit (qw_block_out (zq (zp (pT (iv k) ?_)))));refine pU (iv ((k + 1 : Nat) : Int)) (ew (by omega) (by omega)) ?_;refine pT (iv ((k + 1 : Nat) : Int)) ?_;refine pl_nil ?_;have Ww := B3.trans B0;have Wx := Cc.trans Ww;have Wy := Cb.trans Wx;refine zr [1, 5, 13, 19, 20] _ ?_ ⟨(k + 1), Bi, B8, Ra, N1, rfl, rfl, (T Bo (T Br (T C3 (T Dd De)))), hE, (Wy.trans Jl), Ek, by omega, En, K3, (fun e => absurd e (by omega))⟩;omega
        ·
         refine pU (.bool false) (en (((k : Nat) : Int) < (14 : Int)) (Q6)) ?_;refine pT (.bool false) ?_;refine zn (zf ?_);refine cw_exit (qw_then_exit (qw_then_exit (qw_block_out ?_)));exact zl hJ [1, 5, 13, 19] ⟨g9, c9, R9, N9, rfl, Bo, hE, (Cb.trans Cc), Gk, hcc, hno, (fun e => (hrd e).2.2 (by have := Zt e; omega))⟩
       ·
        refine pU (.bool false) (en (((k : Nat) : Int) < (z6 : Int)) (Q5)) ?_;refine pT (.bool false) ?_;refine pK ?_;refine pK ?_;refine pT (.bool false) ?_;refine zn (zf ?_);refine cw_exit (qw_then_exit (qw_then_exit (qw_block_out ?_)));exact zl hJ [1, 5, 13, 19] ⟨g9, c9, R9, N9, rfl, Bo, hE, (Cb.trans Cc), Gk, hcc, hno, (fun e => (hrd e).2.2 (by have := Zt e; omega))⟩
      ·
       clear hE Cb;rintro L ws B0f ⟨g8, c8, R8, N8, rfl, Qm, hE, Cb, hN8, B6u, Sa, B2g⟩;have Ea := Ext.refl B0f;refine zq (zc (cw_plain ?_));have Wz := Bj.trans Cb;have X0 := Dc.trans Wz;have Xa := Cp.trans X0;have Kx := Ba.trans Xa;refine pU (.agg #[iv 0, .slice Ci Cf Cn]) (xl (ld25 (Bf.c (Kx.trans Ea)) (Be.c (Kx.trans Ea)))) ?_;refine pS (sc 13 #[.agg #[iv 0, .slice Ci Cf Cn]] ((Fold_y _ _ ((E9.ext (Kx.trans Ea))) (Ext.refl _) (hRl.ext hE) (if_pos (hA.a.valid (c := 0) (by omega) (by have := hA.len; omega)) : Rep.foldO 0 A9 = some (Rep.foldF A9))).mono ?_));rintro e Pa ⟨Ez, F3, F1, rfl, Uw, B2t, hb⟩;refine mv2 hb hE Ea fun hE Ea=>?_;have Qv := hb.size;have Ej := Ext.refl Pa;refine ⟨_, rfl, pD (.tuple #[.slice Ez F3 F1, iv 0]) (.slice Ez F3 F1) ?_⟩;refine pD (iv 0) (.slice Ez F3 F1) ?_;refine pT (iv 0) ?_;refine zn (zc (zc (zp (pD (iv 0) (.bool false) ?_))));refine zn (zf ?_);refine cw_skip (zq (zc (zc (zp (pT (iv 0) ?_)))));refine zn (cw_block ?_);refine cw_loop [1, 5, 13, 19, 25, 27] (fun ws' wr m => ∃ k : Nat, ws' = [(1, .slice ai ni ci), (5, .bool true), (13, pw Bg 0), (19, sv g8 0 3 c8), (25, .slice Ez F3 F1), (27, iv k)] ∧ m = 3 - k ∧ Pa.heap.size ≤ wr.heap.size ∧ Ext w wr ∧ Ext Pa wr ∧ k ≤ 3) (ws0 := [(1, .slice ai ni ci), (5, .bool true), (13, pw Bg 0), (19, sv g8 0 3 c8), (25, .slice Ez F3 F1), (27, iv 0)]) (by kernel_rfl) _ ⟨0, rfl, rfl, Nat.le_refl _, hE, Ej, Nat.zero_le _⟩ ?_;clear hE Ej;rintro B7c L ws Mq ⟨k, rfl, rfl, Ju, hE, Ej, hk⟩
       by_cases hlt : k < 3
       ·
        refine zc (zc (zp (pT (iv k) ?_)));refine pU (.bool true) (ed (((k : Nat) : Int) < (3 : Int)) (by omega)) ?_;refine zn (zt ?_);refine cw_skip (zq (zc (cw_block ?_)));refine cw_seq ?_;have Bb := Ext.refl Mq;have Ky := Ea.trans Ej;have B6y := ((hN8.ext (Ky.trans Bb))).lt;obtain ⟨au, nu, cu, Hx, Fw, Hu, hcu⟩ := ((hN8.ext (Ky.trans Bb))).at (j := k) (by omega);have Xb := Cb.trans Ky;have Xc := Bj.trans Xb;have Xd := Dc.trans Xc;have Xe := Cp.trans Xd;have Ed := Ba.trans Xe;refine cw_join (fun ws' Y => ∃ Em : Option Addr, ∃ El Eo F8 : Nat, ws' = [(1, .slice ai ni ci), (5, .bool true), (13, pw Bg 0), (19, sv g8 0 3 c8), (25, .slice Ez F3 F1), (27, iv k), (28, pw F8 0), (29, iv 0)] ∧ Ext w Y ∧ Ext Mq Y ∧ RecsAt Y Em El A9 ∧ El ≤ Eo ∧ BoxAt Y F8 0 (iv k) ∧ BoxAt Y F8 1 (.slice Em El Eo) ∧ Mq.heap.size ≤ Y.heap.size ∧ Mq.heap.size ≤ F8) (fun hJ => ?_) ?_
        ·
         refine dE Tz78_9 (fun w' => w'.cell? ⟨g8, k * 2, none⟩ = some (iv k) ∧ w'.cell? ⟨g8, k * 2 + 1, none⟩ = some (.slice au nu cu) ∧ w'.cell? ⟨Bg, 0, none⟩ = some (iv 0) ∧ w'.cell? ⟨Bg, 1, none⟩ = some (.slice Ci Cf Cn)) (⟨Hx, Fw, (Bf.x (Ed.trans Bb)).1, (Be.x (Ed.trans Bb)).1⟩) (fun ops Q B6o hb hL hR hK => ?_);refine mv2 hb hE Bb fun hE Bb=>?_;have Ft := hb.size;have Hd := A4 (Bb.cell Hx) (Bb.cell Fw) (Bf.c (Ed.trans Bb)) (Be.c (Ed.trans Bb));refine wW 0 (sv g8 0 3 c8) 1 (iv k) hR Hd ?_;refine wL 2 (pw g8 (k * 2)) hR (fun w _ => ex_index (p := sv g8 0 3 c8) (i := iv k) rfl (by kernel_rfl) (by kernel_rfl) (ix28z (k := k) (by omega))) Hd ?_;refine wM 3 (.agg #[iv k, .slice au nu cu]) hR (fun w hS => ld25 (hS.1) (hS.2.1)) Hd ?_;refine wM 4 (.agg #[iv 0, .slice Ci Cf Cn]) hR (fun w hS => ld25 (hS.2.2.1) (hS.2.2.2)) Hd ?_;refine zw 5 9 hR ?_ ?_
         ·
          refine sc 26 #[.agg #[iv k, .slice au nu cu], .agg #[iv 0, .slice Ci Cf Cn]] ((Merge_y _ _ _ ((Hu.ext Bb)) (Ext.refl _) ((E9.ext (Ed.trans Bb))) (Ext.refl _) (hRl.ext hE) (hA.last Sa (by omega))).mono ?_);rintro e B0g ⟨Em, El, Eo, rfl, J8, Lm, B34, hb⟩;refine mv2 hb hE Bb fun hE Bb=>?_;have Lz := hb.size;have Ce := Ext.refl B0g;have Xf := Ej.trans Bb;have Xg := Ea.trans Xf;have Xh := Cb.trans Xg;have Xi := Bj.trans Xh;have Xj := Dc.trans Xi;have Xk := Cp.trans Xj;have Gp := Ba.trans Xk;have Jj := A4 ((Bb.trans Ce).cell Hx) ((Bb.trans Ce).cell Fw) (Bf.c (Gp.trans Ce)) (Be.c (Gp.trans Ce));refine ⟨_, rfl, Jj, ?_⟩;refine wW 6 (.tuple #[.agg #[iv k, .slice Em El Eo], iv 0]) 7 (.agg #[iv k, .slice Em El Eo]) hR Jj ?_;refine wV 8 (iv 0) hR Jj ?_;refine wN 9 25 #[iv 0, .slice none 0 0] hR ?_;intro F8 B19 J4 B3y hb hbx;have ⟨Ch, Cv⟩ := bq2 hbx;refine mv2 hb hE Ce fun hE Ce=>?_;have Zl := hb.size;have B61 := Ch.lt;have Vx := A4 ((Bb.trans Ce).cell Hx) ((Bb.trans Ce).cell Fw) (Bf.c (Gp.trans Ce)) (Be.c (Gp.trans Ce));refine ⟨Vx, ?_⟩;refine wS 10 hR (sn_set2 (O := F8) (j := 0) (v := iv k) (v' := .slice Em El Eo) (ex_store (p := pw F8 0) (v := .agg #[iv k, .slice Em El Eo]) rfl (by kernel_rfl) (by kernel_rfl) (st25 Ch.1 Ch.2 Cv.1 Cv.2)) Ch Cv ?_);intro B1a ho Ch Cv hk;replace hE := ho.ext hE (by omega);replace Ce := ho.ext Ce (Nat.le_of_eq J4);have Zm := Nat.le_of_eq ho.size.symm;clear ho hk;have Pu := A4 ((Bb.trans Ce).cell Hx) ((Bb.trans Ce).cell Fw) (Bf.c (Gp.trans Ce)) (Be.c (Gp.trans Ce));refine ⟨Pu, ?_⟩;refine wV 11 (iv 0) hR Pu ?_;refine we hL hR hK ?_;exact zl hJ [1, 5, 13, 19, 25, 27, 28, 29] ⟨Em, El, Eo, F8, rfl, hE, (Bb.trans Ce), (J8.ext Ce), Lm, Ch, Cv, (T Ft (T Lz (T Zl Zm))), (T (T Ft Lz) (Nat.le_of_eq J4))⟩
         ·
          refine sw 25 #[iv 0, .slice none 0 0] ?_;intro Mw B6p J5 B3z hb hbx;have ⟨Cw, D8⟩ := bq2 hbx;refine mv2 hb hE Bb fun hE Bb=>?_;have Zn := hb.size;have B00 := Cw.lt;have Vy := A4 (Bb.cell Hx) (Bb.cell Fw) (Bf.c (Ed.trans Bb)) (Be.c (Ed.trans Bb));refine ⟨Vy, ?_⟩;refine wC 5 26 #[.agg #[iv k, .slice au nu cu], .agg #[iv 0, .slice Ci Cf Cn]] hR ((Merge_y _ _ _ ((Hu.ext Bb)) (Ext.refl _) ((E9.ext (Ed.trans Bb))) (Ext.refl _) (hRl.ext hE) (hA.last Sa (by omega))).mono ?_);rintro e U1 ⟨Kh, Ml, Me, rfl, Ux, S7, Sg, hb⟩;refine mv4 hb hE Bb Cw D8 fun hE Bb Cw D8=>?_;have Zo := hb.size;have Hj := Ext.refl U1;have Xl := Ej.trans Bb;have Xm := Ea.trans Xl;have Xn := Cb.trans Xm;have Xo := Bj.trans Xn;have Xp := Dc.trans Xo;have Xq := Cp.trans Xp;have Q1 := Ba.trans Xq;have Jk := A4 ((Bb.trans Hj).cell Hx) ((Bb.trans Hj).cell Fw) (Bf.c (Q1.trans Hj)) (Be.c (Q1.trans Hj));refine ⟨_, rfl, Jk, ?_⟩;refine wW 6 (.tuple #[.agg #[iv k, .slice Kh Ml Me], iv 0]) 7 (.agg #[iv k, .slice Kh Ml Me]) hR Jk ?_;refine wV 8 (iv 0) hR Jk ?_;have I4 := Ux;have Fi := (Bb.trans Hj);refine wS 10 hR (sn_set2 (O := Mw) (j := 0) (v := iv k) (v' := .slice Kh Ml Me) (ex_store (p := pw Mw 0) (v := .agg #[iv k, .slice Kh Ml Me]) rfl (by kernel_rfl) (by kernel_rfl) (st25 Cw.1 Cw.2 D8.1 D8.2)) Cw D8 ?_);intro B1b ho Cw D8 hk;replace hE := ho.ext hE (by omega);replace Fi := ho.ext Fi (T Ft (Nat.le_of_eq J5));replace I4 := I4.turn ho (fun ad e => Nat.ne_of_gt (Nat.lt_of_lt_of_le (by omega) (Sg ad e)));have Zp := Nat.le_of_eq ho.size.symm;clear ho hk;have Pv := A4 (Fi.cell Hx) (Fi.cell Fw) (Bf.c (Ed.trans Fi)) (Be.c (Ed.trans Fi));refine ⟨Pv, ?_⟩;refine wV 11 (iv 0) hR Pv ?_;refine we hL hR hK ?_;exact zl hJ [1, 5, 13, 19, 25, 27, 28, 29] ⟨Kh, Ml, Me, Mw, rfl, hE, Fi, I4, S7, Cw, D8, (T Ft (T Zn (T Zo Zp))), (T Ft (Nat.le_of_eq J5))⟩
        ·
         clear hE Bb;rintro L ws Ug ⟨Em, El, Eo, F8, rfl, hE, Bb, J8, Lm, Ch, Cv, Qk, B5h⟩;have Fj := Ext.refl Ug;have B62 := Ch.lt;refine zq (zc (zp (pU (.agg #[iv k, .slice Em El Eo]) (xl (ld25 (Ch.1) (Cv.1))) ?_)));refine pS (sc 13 #[.agg #[iv k, .slice Em El Eo]] ((Fold_y _ _ (J8) (Ext.refl _) (hRl.ext hE) (if_pos (hA.a.valid (c := ((k : Nat) : Int)) (by omega) (by have := hA.len; omega)) : Rep.foldO (((k : Nat) : Int)) A9 = some (Rep.foldF A9))).mono ?_));rintro e B0h ⟨Ki, Mm, Mf, rfl, Uy, B2u, hb⟩;refine mv2 hb hE Fj fun hE Fj=>?_;have Qw := hb.size;have Dk := Ext.refl B0h;refine ⟨_, rfl, pD (.tuple #[.slice Ki Mm Mf, iv 0]) (.slice Ki Mm Mf) ?_⟩;refine pD (iv 0) (.slice Ki Mm Mf) ?_;refine pT (iv 0) ?_;refine zn (cK [1,5,13,19,25,27,28,29,30,31] (fun L => ?_));refine zc (zc (zp (pD (iv 0) (.bool false) ?_)));refine pD (.bool false) (iv 0) ?_;refine pD (.bool false) (.bool false) ?_;refine pD (.bool false) (pw F8 1) ?_;refine pU (.slice Em El Eo) (xl (ld23 (Cv.c (Fj.trans Dk)))) ?_;refine pT (pw Bg 1) ?_;have Xr := Bb.trans Fj;have Q2 := Ej.trans Xr;have Xs := Ea.trans Q2;have Xt := Cb.trans Xs;have Xu := Bj.trans Xt;have Xv := Dc.trans Xu;have Xw := Cp.trans Xv;have Q3 := Ba.trans Xw;refine pU (.slice Ci Cf Cn) (xl (ld23 (Be.c (Q3.trans Dk)))) ?_;refine pS (sc 15 #[.slice Em El Eo, .slice Ci Cf Cn] ((SameRecords_r _ _ _ ((J8.ext (Fj.trans Dk))) (Ext.refl _) ((E9.ext (Q3.trans Dk))) (Ext.refl _) (decide_eq_true rfl)).mono ?_));rintro e B7h ⟨rfl, hb⟩;refine mv2 hb hE Dk fun hE Dk=>?_;have Qx := hb.size;refine ⟨_, rfl, pD (.bool false) (.bool false) ?_⟩;refine pD (.bool false) (.slice Ki Mm Mf) ?_;refine pT (.slice Ez F3 F1) ?_;refine pS (sc 15 #[.slice Ki Mm Mf, .slice Ez F3 F1] ((SameRecords_r _ _ _ ((Uy.ext Dk)) (Ext.refl _) ((Uw.ext (Q2.trans Dk))) (Ext.refl _) (decide_eq_true rfl)).mono ?_));rintro e B0i ⟨rfl, hb⟩;refine mv2 hb hE Dk fun hE Dk=>?_;have Qy := hb.size;refine ⟨_, rfl, pD (.bool false) (.bool false) ?_⟩;refine zn (cK [1,5,13,19,25,27,278] (fun L => ?_));refine zf ?_;refine cw_skip (qw_then ?_);refine cw_seq ?_;have Cq := Ext.refl B0i
         by_cases hn0 : ni = 0
         ·
          have Xx := Fj.trans Dk;have Hn := Bb.trans Xx;have Q4 := Ej.trans Hn;have Xy := Ea.trans Q4;have Xz := Cb.trans Xy;have Y0 := Bj.trans Xz;have Y1 := Dc.trans Y0;have Y2 := Cp.trans Y1;have Jp := Ba.trans Y2;refine dE Tz78_10 (fun w' => w'.cell? ⟨g8, k * 2 + 1, none⟩ = some (.slice au nu cu) ∧ w'.cell? ⟨Bg, 1, none⟩ = some (.slice Ci Cf Cn)) (⟨((Hn.trans Cq).cell Fw), (Be.x (Jp.trans Cq)).1⟩) (fun ops Q B6q hb hL hR hK => ?_);refine mv2 hb hE Cq fun hE Cq=>?_;have Zq := hb.size;have E1 := A2 ((Hn.trans Cq).cell Fw) (Be.c (Jp.trans Cq));refine wW 0 (.slice ai ni ci) 1 (iv ni) hR E1 ?_;refine wL 2 (.bool true) hR (fun w _ => ev_eq (show _ = Result.ok (Next.value (Value.bool (((ni : Nat) : Int) == (0 : Int)))) _ from by kernel_rfl) (by omega)) E1 ?_;refine wW 3 (.bool true) 4 (sv g8 0 3 c8) hR E1 ?_;refine wV 5 (iv k) hR E1 ?_;refine wL 6 (pw g8 (k * 2)) hR (fun w _ => ex_index (p := sv g8 0 3 c8) (i := iv k) rfl (by kernel_rfl) (by kernel_rfl) (ix28z (k := k) (by omega))) E1 ?_;refine wV 7 (pw g8 (k * 2 + 1)) hR E1 ?_;refine wM 8 (.slice au nu cu) hR (fun w hS => ld23 (hS.1)) E1 ?_;refine wV 9 (pw Bg 1) hR E1 ?_;refine wM 10 (.slice Ci Cf Cn) hR (fun w hS => ld23 (hS.2)) E1 ?_;refine wC 11 15 #[.slice au nu cu, .slice Ci Cf Cn] hR ((SameRecords_r _ _ _ ((Hu.ext (Hn.trans Cq))) (Ext.refl _) ((E9.ext (Jp.trans Cq))) (Ext.refl _) (decide_eq_true (hA.full (Sa.inn k (by omega)) (B2g hn0 k (by omega))))).mono ?_);rintro e B7i ⟨rfl, hb⟩;refine mv2 hb hE Cq fun hE Cq=>?_;have Zr := hb.size;have Ko := A2 ((Hn.trans Cq).cell Fw) (Be.c (Jp.trans Cq));refine ⟨_, rfl, Ko, ?_⟩;refine wW 12 (.bool false) 13 (.bool false) hR Ko ?_;refine we hL hR hK ?_;refine zq (cK [1,5,13,19,25,27,292] (fun L => ?_));refine zf ?_;refine cw_skip (qw_block (zq (zp (pT (iv k) ?_))));refine pU (iv ((k + 1 : Nat) : Int)) (ew (by omega) (by omega)) ?_;refine pT (iv ((k + 1 : Nat) : Int)) ?_;refine pl_nil (zr [1, 5, 13, 19, 25, 27] _ ?_ ⟨(k + 1), rfl, rfl, (by omega), hE, (Q4.trans Cq), by omega⟩);omega
         ·
          refine dE Tz78_10 (fun w' => True) (trivial) (fun ops Q B6r hb hL hR hK => ?_);refine mv2 hb hE Cq fun hE Cq=>?_;have Zs := hb.size;have hS := trivial;refine wW 0 (.slice ai ni ci) 1 (iv ni) hR hS ?_;refine wL 2 (.bool false) hR (fun w _ => ev_neq (show _ = Result.ok (Next.value (Value.bool (((ni : Nat) : Int) == (0 : Int)))) _ from by kernel_rfl) (by omega)) hS ?_;refine wV 3 (.bool false) hR hS ?_;refine wK 4 hR hS ?_;refine wK 5 hR hS ?_;refine wK 6 hR hS ?_;refine wK 7 hR hS ?_;refine wK 8 hR hS ?_;refine wK 9 hR hS ?_;refine wK 10 hR hS ?_;refine wK 11 hR hS ?_;refine wK 12 hR hS ?_;refine wV 13 (.bool false) hR hS ?_;refine we hL hR hK ?_;refine zq (cK [1,5,13,19,25,27,292] (fun L => ?_));refine zf ?_;refine cw_skip (qw_block (zq (zp (pT (iv k) ?_))));refine pU (iv ((k + 1 : Nat) : Int)) (ew (by omega) (by omega)) ?_;refine pT (iv ((k + 1 : Nat) : Int)) ?_;refine pl_nil ?_;have Y3 := Fj.trans Dk;have Y4 := Bb.trans Y3;have Y5 := Ej.trans Y4;refine zr [1, 5, 13, 19, 25, 27] _ ?_ ⟨(k + 1), rfl, rfl, (T Ju (T Qk (T Qw (T Qx (T Qy Zs))))), hE, (Y5.trans Cq), by omega⟩;omega
       ·
        refine zc (zc (zp (pT (iv k) ?_)));refine pU (.bool false) (en (((k : Nat) : Int) < (3 : Int)) (by omega)) ?_;refine zn (zf ?_);refine cw_exit (qw_then_exit (qw_then_exit (qw_block_out (zq (zc (zp (pD (.bool true) (.bool true) ?_)))))));refine zn (cw_ret (qw_ret [.bool true] rfl ⟨(by kernel_rfl), trivial⟩ ?_));exact ⟨rfl, hE⟩
end Go.Proofs.YtfmoabgjaclkpaaGreatDoor

namespace Go.Proofs.YtfmoabgjaclkpaaGreatDoor
open Go.ChangeShapes Go.WideShapes Go.ChangeAt Go.RowKit
set_option maxRecDepth 100000 in
theorem ReplicaOrder_lifted (os : Os) (started : os.Started) (H : Type) (enc : TypeId × Value → H) :
  ReturnsInHanded {} Tryz.checked os 4 .any (fun w args => (Rows.replicaOrderSpec.pre enc Tryz.prog Tryz.f4 [] false w args ∧ laidMetH Tryz.prog laidTabs w) ∧ sizedMet enc Tryz.prog Tryz.f4 (OpenSpec.ofChange Rows.replicaOrderSpec) false w args)
   (Rows.replicaOrderSpec.post enc Tryz.prog Tryz.f4 false true false false) := by
 refine returnsInHanded_of_change_and (C := Tryz.checked) (X := fun w _ => laidMetH Tryz.prog laidTabs w) (fun _ _ _ hh h => h.of_heap hh) own started (by kernel_rfl) Tryz.func4
  (ChangeSpec.witness_shaped (enc := enc) (C := Tryz.checked) (os := os) (X := fun w _ => laidMetH Tryz.prog laidTabs w) false (World.doorLaid Tryz.prog 19 os) #[.slice none 0 0, .slice none 0 0] 8 rfl (World.shaped_of_RefB (by kernel_rfl) (by kernel_rfl)) (by kernel_rfl) (by kernel_rfl) (by kernel_rfl) (door_met os _)) ?_
 intro W base args ds gs before hval0 hW _ hsz hL _
 have hval : ∀ (j : Nat) t v, Tryz.f4.params[j]? = some t → args[j]? = some v → Value.okWide Tryz.prog W .any base t v := hval0
 have hW' := hW
 obtain ⟨p, q, hA0, hV, rfl, hfz, hnd⟩ := hW
 have hA : DataW.TrodAll enc Tryz.prog W 0 (fun _ => true) true Tryz.f4.params.toList args.toList ds p := hA0
 rw [Tryz.params4] at hA hval
 obtain ⟨v0, vs0, d0, ds0, p0, q0, hargs, rfl, rfl, h0, r0⟩ := trodAll_cons hA
 obtain ⟨v1, vs1, d1, ds1, p1, q1, rfl, rfl, rfl, h1, r1⟩ := trodAll_cons r0
 obtain ⟨rfl, rfl, rfl⟩ := trodAll_nil r1
 obtain rfl : args = #[v0, v1] := by cases args; simp_all
 obtain ⟨rfl, rfl⟩ := trodVars_none hV
 have k0 := h0
 have lt0 : ∀ x ∈ p0, x.block < W.heap.size := by obtain ⟨m, hm⟩ := k0; exact DataW.trod_lt m _ _ _ hm
 have op0 := open_quads (hval 0 _ v0 rfl rfl) h0
 have k1 := h1
 have lt1 : ∀ x ∈ p1, x.block < W.heap.size := by obtain ⟨m, hm⟩ := k1; exact DataW.trod_lt m _ _ _ hm
 have op1 := open_ints (hval 1 _ v1 rfl rfl) h1
 clear hA0 hval0
 refine (ReplicaOrder_walk W v0 op0 v1 op1 (tab_of_laid hL)).mono fun e W' ⟨he, hE⟩ => ?_
 subst he
 have bel : Below W.heap.size W W' := hE
 exact ⟨_, rfl, _, _, _, [], _, [], hW', trodAll_mk1 (shut_bool Tryz.underlying4 _), (trodAll_cons_mk (Below.trod laidOut (by kernel_rfl) (of_decide_eq_true (by kernel_rfl)) k0 bel lt0) (trodAll_cons_mk (Below.trod laidOut (by kernel_rfl) (of_decide_eq_true (by kernel_rfl)) k1 bel lt1) trodAll_mk0)), rfl, bel.frame _, fun h => by cases h⟩
theorem ReplicaOrder_over : Rows.ReplicaOrderSaid :=
 OpenClaim.holds_of_wide 4 Tryz.f4 rfl rfl rfl rfl rfl rfl rfl ⟨rfl, rfl, rfl, rfl, rfl⟩ rfl rfl rfl rfl rfl (by kernel_rfl) Tryz.func4 (by kernel_rfl)
  (of_decide_eq_true (by kernel_rfl)) (by unfold Func.isWrapper; first | (rw [if_pos (by decide +kernel)]; kernel_rfl) | (rw [if_neg (by decide +kernel)]; exact ⟨rfl, rfl⟩))
  (fun os started H enc _ => ReplicaOrder_lifted os started H enc)
theorem ReplicaOrder_holds : Rows.ReplicaOrderCardSaid :=
 Claim7.holds_tied_plain_at .later [] [.data] true (true, "f9bd7bf2428558407907bdf4a3d03e3e627b39690f181bd9906d008ddbe31a7e") false
  ReplicaOrder_over (fun _ h => by cases h) (by kernel_rfl) (fun _ h => by cases h) replicaOrder_row_tie rfl ⟨rfl, rfl⟩ (by kernel_rfl) rfl
  (fun f fn hf hfn => by
   obtain rfl : f = 4 := Option.some.inj ((show Tryz.prog.funcNamed "nadir/nadirlaw35.ReplicaOrder" = some 4 by kernel_rfl).symm.trans hf) |>.symm
   obtain rfl : fn = Tryz.f4 := (Option.some.inj (Tryz.func4.symm.trans hfn)).symm
   exact ⟨by kernel_rfl, fun j t ht => by
    rw [Tryz.params4] at ht
    have hm : t ∈ [22, 54] := by simpa using Array.mem_of_getElem? ht
    have hall : ([22, 54].all fun u => !Tryz.prog.wantsStandIn u) = true := by kernel_rfl
    exact (show Tryz.prog.wantsStandIn t = false by simpa using List.all_eq_true.1 hall t hm)⟩)
  (by kernel_rfl)
#print axioms ReplicaOrder_holds
end Go.Proofs.YtfmoabgjaclkpaaGreatDoor
